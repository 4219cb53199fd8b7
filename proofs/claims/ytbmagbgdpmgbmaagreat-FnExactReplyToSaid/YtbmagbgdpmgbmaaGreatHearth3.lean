/- An abstract machine for Go programs, and its soundness: the framework of this proof; no condition. -/
import Derived.ChangeSlices
import Derived.Below
import Derived.Carry
import Derived.Maps.Own
import Derived.WalkKit
import Derived.ProofKit
import Derived.Laws.Externs
import Derived.Lib.Bytealg
import Derived.Lib.AppendZerosOnto
import Derived.WideShapes
import Derived.Test.YtbmagbgdpmgbmaaGreatHearth2
set_option linter.unusedVariables false
set_option linter.unusedSimpArgs false
/- The abstract machine: rules, one a step. -/
namespace Hearth
open Go
inductive It where
  | c (x : C)
  | t (x : T) (tags : List Nat)
  | b (id : Nat)
  | h
  | inv (J : St → Prop)
def kont (P : Program) : List It → (Ex → St → Prop) → Ex → St → Prop
  | [], Q, e, s => Q e s
  | .c x :: k, Q, .normal, s => ∃ t, Sub s t ∧ wpC P x t (kont P k Q)
  | .c _ :: k, Q, e, s => kont P k Q e s
  | .t x tags :: k, Q, .normal, s => wpT P x tags s (kont P k Q .normal)
  | .t _ _ :: k, Q, e, s => kont P k Q e s
  | .h :: k, Q, .normal, s => kont P k Q .normal { s with hold := [] }
  | .h :: k, Q, e, s => kont P k Q e s
  | .b id :: k, Q, .exit id', s => if id' = id then kont P k Q .normal s else kont P k Q (.exit id') s
  | .b _ :: k, Q, e, s => kont P k Q e s
  | .inv J :: _, _, .normal, s => J s
  | .inv _ :: k, Q, e, s => kont P k Q e s
section
variable {P : Program} {k : List It} {Q : Ex → St → Prop} {s : St}
theorem kont_ret : kont P k Q .ret s = Q .ret s := by
  induction k with
  | nil => rfl
  | cons i k ih => cases i <;> exact ih
theorem wpC_congr {x : C} {Q Q' : Ex → St → Prop} (h : ∀ e s, Q e s = Q' e s) : wpC P x s Q = wpC P x s Q' := by
  have : Q = Q' := funext fun e => funext fun s => h e s
  rw [this]
theorem kSub {x : C} {t : St} (hs : Sub s t) (h : kont P (.c x :: k) Q .normal t) : kont P (.c x :: k) Q .normal s :=
  let ⟨u, h1, h2⟩ := h; ⟨u, hs.trans h1, h2⟩
theorem kNow {x : C} (h : wpC P x s (kont P k Q)) : kont P (.c x :: k) Q .normal s := ⟨s, .refl s, h⟩
theorem kSkip (h : kont P k Q .normal s) : kont P (.c .skip :: k) Q .normal s := kNow h
theorem kSeq {x y : C} (h : kont P (.c x :: .c y :: k) Q .normal s) : kont P (.c (.seq x y) :: k) Q .normal s := by
  obtain ⟨t, h1, h2⟩ := h
  refine ⟨t, h1, ?_⟩
  show wpC P x t _
  refine (wpC_congr fun e s => ?_).mp h2
  cases e <;> rfl
theorem kBlock {id : Nat} {x : C} (h : kont P (.c x :: .b id :: k) Q .normal s) : kont P (.c (.block id x) :: k) Q .normal s := by
  obtain ⟨t, h1, h2⟩ := h
  refine ⟨t, h1, ?_⟩
  show wpC P x t _
  refine (wpC_congr fun e s => ?_).mp h2
  cases e <;> rfl
theorem kBk {id : Nat} (h : kont P k Q .normal s) : kont P (.b id :: k) Q .normal s := h
theorem kH (h : kont P k Q .normal { s with hold := [] }) : kont P (.h :: k) Q .normal s := h
theorem kExit {id : Nat} (h : kont P k Q (.exit id) s) : kont P (.c (.exit id) :: k) Q .normal s := kNow h
theorem kExC {id : Nat} {x : C} (h : kont P k Q (.exit id) s) : kont P (.c x :: k) Q (.exit id) s := h
theorem kExI {id : Nat} {J : St → Prop} (h : kont P k Q (.exit id) s) : kont P (.inv J :: k) Q (.exit id) s := h
theorem kExB {id : Nat} (h : kont P k Q .normal s) : kont P (.b id :: k) Q (.exit id) s := by
  show ite _ _ _
  rw [if_pos rfl]; exact h
theorem kRet (h : Q .ret s) : kont P (.c .ret :: k) Q .normal s := by
  refine kNow ?_
  show kont P k Q .ret s
  rw [kont_ret]; exact h
theorem kInv {J : St → Prop} (h : J s) : kont P (.inv J :: k) Q .normal s := h
theorem kCond {c : X} {x y : C} {b : Bool} (hc : s.ev c = .c (.d (.sc (.bool b)))) (h1 : b = true → kont P (.c x :: k) Q .normal s) (h2 : b = false → kont P (.c y :: k) Q .normal s) : kont P (.c (.cond c x y) :: k) Q .normal s := by
  refine kNow ?_
  simp only [wpC, hc]
  exact ⟨h1, h2⟩
theorem kCondT {c : X} {x y : C} (hc : s.ev c = .c (.d (.sc (.bool true)))) (h1 : kont P (.c x :: k) Q .normal s) : kont P (.c (.cond c x y) :: k) Q .normal s :=
  kCond hc (fun _ => h1) (fun h => by cases h)
theorem kCondF {c : X} {x y : C} (hc : s.ev c = .c (.d (.sc (.bool false)))) (h1 : kont P (.c y :: k) Q .normal s) : kont P (.c (.cond c x y) :: k) Q .normal s :=
  kCond hc (fun h => by cases h) (fun _ => h1)
theorem kReg {t : T} (h : kont P (.t t [] :: k) Q .normal s) : kont P (.c (.reg false t) :: k) Q .normal s := kNow h
theorem kRegD {t : T} (h : kont P (.t t [] :: .h :: k) Q .normal s) : kont P (.c (.reg true t) :: k) Q .normal s := kNow h
theorem kDone {tags : List Nat} (h : kont P k Q .normal s) : kont P (.t .done tags :: k) Q .normal s := h
theorem kLoop {x : C} {α : Type} (F : α → St) (μ : α → Nat) (y : α) (h0 : Sub s (F y)) (hr : ∀ y, kont P (.c x :: .inv (fun s'' => ∃ z, μ z < μ y ∧ Sub s'' (F z)) :: k) Q .normal (F y)) : kont P (.c (.loop x) :: k) Q .normal s := by
  refine kNow ⟨α, F, μ, ⟨y, h0⟩, fun y => ?_⟩
  obtain ⟨t, h1, h2⟩ := hr y
  refine ⟨t, h1, (wpC_congr fun e s => ?_).mp h2⟩
  cases e <;> rfl
end
end Hearth

/- The abstract machine: rules for operations. -/
namespace Hearth
open Go
section
variable {P : Program} {k : List It} {Q : Ex → St → Prop} {s : St} {d : Option Nat} {q : Bool} {r : T} {oi : Nat} {tags : List Nat}
theorem kOp {o : O} (hs : q = true → s.still o) (h : stepO P s o fun v s' => kont P (.t r tags :: k) Q .normal (s'.put d v)) (hnl : (q && o.isLoad) = false := by simp [O.isLoad]) : kont P (.t (.op oi [] d none q o r) tags :: k) Q .normal s := by
  refine ⟨fun e => ?_, ?_⟩
  · simp only [relS_nil, St.holds, hnl]; exact hs e
  · simp only [relS_nil, relT_nil, St.holds, hnl]; exact h
def _root_.Hearth.St.heldIf (s : St) (q : Bool) (ids : List Nat) : St := { s with hold := if q then ids ++ s.hold else s.hold }
theorem kOpL {n : Option Nat} {x : X} {ids : List Nat} (hi : s.holdOf (.load n x) = ids) (hs : q = true → (s.heldIf q ids).still (.load n x)) (h : stepO P (s.heldIf q ids) (.load n x) fun v s' => kont P (.t r (if q then oi :: tags else tags) :: k) Q .normal (s'.put d v)) :
    kont P (.t (.op oi [] d none q (.load n x) r) tags :: k) Q .normal s := by
  cases q with
  | false => exact kOp nofun h rfl
  | true =>
    have e : ((relS [] tags s).holds true (.load n x)) = s.heldIf true ids := by
      simp only [relS_nil, St.holds, O.isLoad, Bool.and_self, if_true, hi, St.heldIf]
    refine ⟨fun e' => ?_, ?_⟩
    · rw [e]; exact hs rfl
    · rw [e]; simp only [relT_nil, O.isLoad, Bool.and_self, if_true]; exact h
theorem kRelK {i : Nat} {ws : List Nat} {g : Option (Nat × Bool)} {o : O} (h0 : ws.isEmpty = false) (h1 : (relT ws tags).isEmpty = false) (h : kont P (.t (.op i [] d g false o r) (relT ws tags) :: k) Q .normal s) : kont P (.t (.op i ws d g false o r) tags :: k) Q .normal s := by
  have e : ∀ s, relS ws tags s = s := fun s => by simp only [relS, h0, h1, Bool.not_false, Bool.and_false]; rfl
  show wpT P (.op i ws d g false o r) tags s _
  have h' : wpT P (.op i [] d g false o r) (relT ws tags) s (kont P k Q .normal) := h
  simp only [wpT, e, relS_nil, relT_nil] at h' ⊢
  exact h'
theorem kRelF {i : Nat} {ws : List Nat} {g : Option (Nat × Bool)} {o : O} (h0 : ws.isEmpty = false) (h1 : (relT ws tags).isEmpty = true) (h : kont P (.t (.op i [] d g false o r) [] :: k) Q .normal { s with hold := [] }) : kont P (.t (.op i ws d g false o r) tags :: k) Q .normal s := by
  have e : ∀ s : St, relS ws tags s = { s with hold := [] } := fun s => by simp only [relS, h0, h1, Bool.not_false, Bool.and_self]; rfl
  have e2 : relT ws tags = [] := by simpa using h1
  simp only [kont, wpT, e, e2, relS_nil, relT_nil] at h ⊢
  cases g with
  | none => exact h
  | some gw =>
    obtain ⟨g, want⟩ := gw
    simp only [guardA] at h ⊢
    split
    · rename_i b hb
      rw [show ({ s with hold := [] } : St).sl g = s.sl g from rfl, hb] at h
      exact h
    · rename_i hb
      rw [show ({ s with hold := [] } : St).sl g = s.sl g from rfl, hb] at h
      exact h
    · rename_i h1 h2
      split at h
      · rename_i b hb; exact (h1 _ hb).elim
      · rename_i hb; exact (h2 hb).elim
      · exact h
theorem kG {g : Nat} {want b : Bool} {o : O} (hg : s.sl g = .c (.d (.sc (.bool b)))) (h1 : b = want → kont P (.t (.op oi [] d none q o r) tags :: k) Q .normal (s.put (some g) (.b want)))
    (h2 : b = !want → kont P (.t r tags :: k) Q .normal ((s.put (some g) (.b !want)).put d (.c .un))) : kont P (.t (.op oi [] d (some (g, want)) q o r) tags :: k) Q .normal s := by
  simp only [kont, wpT, guardA, hg, relS_nil, relT_nil] at h1 h2 ⊢
  exact ⟨h1, h2⟩
theorem put_id {g : Nat} {v : AV} (h : s.sl g = v) : s.put (some g) v = s := by
  have : upd s.sl g v = s.sl := by
    funext j
    unfold upd
    split
    · rename_i e; rw [e]; exact h.symm
    · rfl
  show { s with sl := upd s.sl g v } = s
  rw [this]
theorem kGT {g : Nat} {want : Bool} {o : O} (hg : s.sl g = .c (.d (.sc (.bool want)))) (h1 : kont P (.t (.op oi [] d none q o r) tags :: k) Q .normal s) : kont P (.t (.op oi [] d (some (g, want)) q o r) tags :: k) Q .normal s := by
  have : s.put (some g) (.b want) = s := put_id hg
  refine kG hg (fun _ => by rw [this]; exact h1) (fun h => by cases want <;> cases h)
theorem kGF {g : Nat} {want : Bool} {o : O} (hg : s.sl g = .c (.d (.sc (.bool (!want))))) (h1 : kont P (.t r tags :: k) Q .normal (s.put d (.c .un))) : kont P (.t (.op oi [] d (some (g, want)) q o r) tags :: k) Q .normal s := by
  have : s.put (some g) (.b !want) = s := put_id hg
  refine kG hg (fun h => by cases want <;> cases h) (fun _ => by rw [this]; exact h1)
theorem kGU {g : Nat} {want : Bool} {o : O} (hg : s.sl g = .c .un) (h1 : kont P (.t r tags :: k) Q .normal (s.put d (.c .un))) : kont P (.t (.op oi [] d (some (g, want)) q o r) tags :: k) Q .normal s := by
  simp only [kont, wpT, guardA, hg, relS_nil, relT_nil] at h1 ⊢
  exact h1
theorem kMovC {x : X} {c : AC} (hx : s.ev x = .c c) (h : kont P (.t r tags :: k) Q .normal (s.put d (.c c))) : kont P (.t (.op oi [] d none q (.mov x) r) tags :: k) Q .normal s :=
  kOp (fun _ => trivial) (by simp only [stepO, hx]; exact h)
theorem kMov_inv {x : X} (h : kont P (.t (.op oi [] d none q (.mov x) r) tags :: k) Q .normal s) : kont P (.t r tags :: k) Q .normal (s.put d (s.ev x)) := by
  have := h.2
  simp only [relS_nil, relT_nil, St.holds, O.isLoad, Bool.and_false] at this
  exact this
theorem kPick {c x y : X} {b : Bool} (hc : s.ev c = .c (.d (.sc (.bool b)))) (h1 : b = true → kont P (.t (.op oi [] d none q (.mov x) r) tags :: k) Q .normal s) (h2 : b = false → kont P (.t (.op oi [] d none q (.mov y) r) tags :: k) Q .normal s) :
    kont P (.t (.op oi [] d none q (.pick c x y) r) tags :: k) Q .normal s :=
  kOp (fun _ => trivial) (by simp only [stepO, hc]; exact ⟨fun e => kMov_inv (h1 e), fun e => kMov_inv (h2 e)⟩)
theorem kPickT {c x y : X} (hc : s.ev c = .c (.d (.sc (.bool true)))) (h1 : kont P (.t (.op oi [] d none q (.mov x) r) tags :: k) Q .normal s) :
    kont P (.t (.op oi [] d none q (.pick c x y) r) tags :: k) Q .normal s := kPick hc (fun _ => h1) (fun h => by cases h)
theorem kPickF {c x y : X} (hc : s.ev c = .c (.d (.sc (.bool false)))) (h1 : kont P (.t (.op oi [] d none q (.mov y) r) tags :: k) Q .normal s) :
    kont P (.t (.op oi [] d none q (.pick c x y) r) tags :: k) Q .normal s := kPick hc (fun h => by cases h) (fun _ => h1)
theorem kBin {op : BinOp} {x y : X} {a b v : Value} (hx : s.ev x = .c (.d (.sc a))) (hy : s.ev y = .c (.d (.sc b))) (hv : evBin op a b = some v) (h : kont P (.t r tags :: k) Q .normal (s.put d (.vv v))) :
    kont P (.t (.op oi [] d none q (.bin op x y) r) tags :: k) Q .normal s :=
  kOp (fun _ => trivial) (by simp only [stepO, hx, hy, hv]; exact h)
theorem wrap64 {n : Int} (h : -9223372036854775808 ≤ n ∧ n ≤ 9223372036854775807) : IntKind.i64.wrap n = n := by
  simp [IntKind.wrap, IntKind.bits, IntKind.signed]
  split <;> omega
theorem kAdd {x y : X} {a b : Int} (hx : s.ev x = .i a) (hy : s.ev y = .i b) (hr : -9223372036854775808 ≤ a + b ∧ a + b ≤ 9223372036854775807) (h : kont P (.t r tags :: k) Q .normal (s.put d (.i (a + b)))) :
    kont P (.t (.op oi [] d none q (.bin .add x y) r) tags :: k) Q .normal s :=
  kBin hx hy (by simp only [evBin, if_true]; rw [wrap64 hr]) h
theorem kDif {x y : X} {a b : Int} (hx : s.ev x = .i a) (hy : s.ev y = .i b) (hr : -9223372036854775808 ≤ a - b ∧ a - b ≤ 9223372036854775807) (h : kont P (.t r tags :: k) Q .normal (s.put d (.i (a - b)))) :
    kont P (.t (.op oi [] d none q (.bin .sub x y) r) tags :: k) Q .normal s :=
  kBin hx hy (by simp only [evBin, if_true]; rw [wrap64 hr]) h
theorem kBeq {ne : Bool} {x y : X} {a b : Bool} (hx : s.ev x = .b a) (hy : s.ev y = .b b) (h : kont P (.t r tags :: k) Q .normal (s.put d (.b (if ne then a != b else a == b)))) : kont P (.t (.op oi [] d none q (.beq ne x y) r) tags :: k) Q .normal s :=
  kOp (fun _ => trivial) (by simp only [stepO, hx, hy]; exact h)
theorem kUn {op : UnOp} {x : X} {a v : Value} (hx : s.ev x = .c (.d (.sc a))) (hv : evUn op a = some v) (h : kont P (.t r tags :: k) Q .normal (s.put d (.vv v))) : kont P (.t (.op oi [] d none q (.un op x) r) tags :: k) Q .normal s :=
  kOp (fun _ => trivial) (by simp only [stepO, hx, hv]; exact h)
theorem kConv {i j : IntKind} {x : X} {n : Int} (hx : s.ev x = .vv (.int j n)) (h : kont P (.t r tags :: k) Q .normal (s.put d (.vv (.int i (i.wrap n))))) : kont P (.t (.op oi [] d none q (.conv i x) r) tags :: k) Q .normal s :=
  kOp (fun _ => trivial) (by simp only [stepO, hx]; exact h)
theorem kLen {x : X} {c : AC} {y : DV} (hx : s.ev x = .c c) (hy : s.rd c = some y) (hsl : y.isSl = true) (h : kont P (.t r tags :: k) Q .normal (s.put d (.i y.len))) : kont P (.t (.op oi [] d none q (.len x) r) tags :: k) Q .normal s :=
  kOp (fun _ => trivial) (by simp only [stepO, hx, hy]; exact ⟨hsl, h⟩)
theorem kIadD {sz : Nat} {x i : X} {y : DV} {j : IntKind} {n : Int} (hx : s.ev x = .c (.d y)) (hi : s.ev i = .vv (.int j n)) (hsl : y.isSl = true) (hsz : y.esz = sz) (hn : 0 ≤ n ∧ n.toNat < y.len) (h : kont P (.t r tags :: k) Q .normal (s.put d (.c (.dpt (y.row n.toNat))))) :
    kont P (.t (.op oi [] d none q (.iad sz x i) r) tags :: k) Q .normal s :=
  kOp (fun _ => trivial) (by simp only [stepO, hx, hi, iadA]; exact ⟨hsl, hsz, hn, h⟩)
theorem kIadA {sz : Nat} {x i : X} {y : DV} {j : IntKind} {n : Int} {id ver ev : Nat} {dp : Bool} (hx : s.ev x = .c (.arr id ver)) (hi : s.ev i = .vv (.int j n)) (ho : s.ob id = ⟨ver, ev, .arr dp y⟩) (hsz : y.esz = sz) (hn : 0 ≤ n ∧ n.toNat < y.len) (h : kont P (.t r tags :: k) Q .normal (s.put d (.c (.ept id ver n.toNat 0)))) :
    kont P (.t (.op oi [] d none q (.iad sz x i) r) tags :: k) Q .normal s :=
  kOp (fun _ => trivial) (by simp only [stepO, hx, hi, iadA, St.obj, ho, if_true]; exact ⟨hsz, hn, h⟩)
theorem kLoadD {n : Option Nat} {x : X} {ds : List DV} {v : AV} (hx : s.ev x = .c (.dpt ds)) (hv : pickCells n (ds.map .d) = some v) (h : kont P (.t r (if q then oi :: tags else tags) :: k) Q .normal (s.put d v)) : kont P (.t (.op oi [] d none q (.load n x) r) tags :: k) Q .normal s := by
  have e : s.heldIf q [] = s := by cases q <;> rfl
  exact kOpL (ids := []) (by simp only [St.holdOf, hx]) (fun _ => by rw [e]; simp only [St.still, hx, stillA]) (by rw [e]; simp only [stepO, hx, loadA, hv]; exact h)
theorem kLoadC {n : Option Nat} {x : X} {ds : List CD} {v : AV} (hx : s.ev x = .c (.cpt ds)) (hv : pickCells n (ds.map CD.ac) = some v) (h : kont P (.t r (if q then oi :: tags else tags) :: k) Q .normal (s.put d v)) : kont P (.t (.op oi [] d none q (.load n x) r) tags :: k) Q .normal s := by
  have e : s.heldIf q [] = s := by cases q <;> rfl
  exact kOpL (ids := []) (by simp only [St.holdOf, hx]) (fun _ => by rw [e]; simp only [St.still, hx, stillA]) (by rw [e]; simp only [stepO, hx, loadA, hv]; exact h)
theorem heldIf_ev (x : X) (ids : List Nat) : (s.heldIf q ids).ev x = s.ev x := by cases x <;> rfl
theorem kLoadP {n : Option Nat} {x : X} {id ver ev off : Nat} {cs : List AC} {v : AV} (hx : s.ev x = .c (.ptr id ver off)) (ho : s.ob id = ⟨ver, ev, .box cs⟩) (hv : pickCells n (cs.drop off) = some v)
    (h : kont P (.t r (if q then oi :: tags else tags) :: k) Q .normal ((s.heldIf q [id]).put d v)) : kont P (.t (.op oi [] d none q (.load n x) r) tags :: k) Q .normal s := by
  have ho' : (s.heldIf q [id]).ob id = ⟨ver, ev, .box cs⟩ := ho
  refine kOpL (ids := [id]) (by simp only [St.holdOf, hx]) (fun e => ?_) ?_
  · subst e; simp only [St.still, heldIf_ev, hx, stillA]; simp [St.heldIf]
  · simp only [stepO, heldIf_ev, hx, loadA, St.obj, ho', if_true, hv]; exact h
theorem kLoadE {n : Option Nat} {x : X} {id ver ev i off : Nat} {dp : Bool} {y : DV} {v : AV} (hx : s.ev x = .c (.ept id ver i off)) (ho : s.ob id = ⟨ver, ev, .arr dp y⟩) (hv : pickCells n (AC.ofCells id ver ev i off ((y.row i).drop off)) = some v)
    (h : kont P (.t r (if q then oi :: tags else tags) :: k) Q .normal ((s.heldIf q [id]).put d v)) : kont P (.t (.op oi [] d none q (.load n x) r) tags :: k) Q .normal s := by
  have ho' : (s.heldIf q [id]).ob id = ⟨ver, ev, .arr dp y⟩ := ho
  refine kOpL (ids := [id]) (by simp only [St.holdOf, hx]) (fun e => ?_) ?_
  · subst e; simp only [St.still, heldIf_ev, hx, stillA]; simp [St.heldIf]
  · simp only [stepO, heldIf_ev, hx, loadA, St.obj, ho', if_true, hv]; exact h
theorem kBox {e : Nat} {x : X} {v : AV} (hx : s.ev x = v) (hv : (match v with | .t _ => false | _ => true) = true) (hl : v.cells.all s.live = true) (hh : (s.hold.contains (rid e 0)) = false) {vv ve : Nat} {vk : OK} (hob : s.ob (rid e 0) = ⟨vv, ve, vk⟩)
    (h : kont P (.t r tags :: k) Q .normal ((s.setOb (rid e 0) ⟨vv + 1, 0, .box v.cells⟩).put d (.c (.ptr (rid e 0) (vv + 1) 0)))) : kont P (.t (.op oi [] d none q (.box e x) r) tags :: k) Q .normal s :=
  kOp (fun _ => trivial) (by
    have hvv : (s.ob (rid e 0)).ver = vv := by rw [hob]
    subst hvv
    simp only [stepO, hx]
    cases v with
    | t _ => simp at hv
    | _ => exact ⟨by simpa using hh, hl, h⟩)
theorem kAlloc {e : Nat} {zs : List X} (hh : (s.hold.contains (rid e 0)) = false) {vv ve : Nat} {vk : OK} (hob : s.ob (rid e 0) = ⟨vv, ve, vk⟩) (h : kont P (.t r tags :: k) Q .normal ((s.setOb (rid e 0) ⟨vv + 1, 0, .box (zs.map X.ac)⟩).put d (.c (.ptr (rid e 0) (vv + 1) 0)))) :
    kont P (.t (.op oi [] d none q (.alloc e zs) r) tags :: k) Q .normal s :=
  kOp (fun _ => trivial) (by
    have hvv : (s.ob (rid e 0)).ver = vv := by rw [hob]
    subst hvv
    simp only [stepO]; exact ⟨by simpa using hh, h⟩)
theorem kBuild {zs : List X} {ps : List (Nat × Nat × X)} {cs : List AC} (hf : s.fill (zs.map X.ac) ps = some cs) (h : kont P (.t r tags :: k) Q .normal (s.put d (.g cs))) : kont P (.t (.op oi [] d none q (.build zs ps) r) tags :: k) Q .normal s :=
  kOp (fun _ => trivial) (by simp only [stepO, hf]; exact h)
theorem kFadP {x : X} {off o id ver ev : Nat} {cs : List AC} (hx : s.ev x = .c (.ptr id ver o)) (ho : s.ob id = ⟨ver, ev, .box cs⟩) (h : kont P (.t r tags :: k) Q .normal (s.put d (.c (.ptr id ver (o + off))))) : kont P (.t (.op oi [] d none q (.fad x off) r) tags :: k) Q .normal s :=
  kOp (fun _ => trivial) (by simp only [stepO, hx, St.obj, ho, if_true]; exact ⟨h, trivial⟩)
theorem kFadE {x : X} {off o id ver i : Nat} (hx : s.ev x = .c (.ept id ver i o)) (ho : (s.ob id).ver = ver) (h : kont P (.t r tags :: k) Q .normal (s.put d (.c (.ept id ver i (o + off))))) : kont P (.t (.op oi [] d none q (.fad x off) r) tags :: k) Q .normal s :=
  kOp (fun _ => trivial) (by simp only [stepO, hx]; exact ⟨h, ho⟩)
theorem kFadD {x : X} {off : Nat} {ds : List DV} (hx : s.ev x = .c (.dpt ds)) (h : kont P (.t r tags :: k) Q .normal (s.put d (.c (.dpt (ds.drop off))))) : kont P (.t (.op oi [] d none q (.fad x off) r) tags :: k) Q .normal s :=
  kOp (fun _ => trivial) (by simp only [stepO, hx]; exact h)
theorem kStoreP {n : Option Nat} {x v : X} {id ver ev off : Nat} {cs : List AC} {y : AV} (hx : s.ev x = .c (.ptr id ver off)) (hv : s.ev v = y) (ho : s.ob id = ⟨ver, ev, .box cs⟩)
    (hb : (!s.hold.contains id && y.cells.all s.live && decide (y.shape = n) && decide (0 < y.cells.length) && decide (off + y.cells.length ≤ cs.length)) = true)
    (h : kont P (.t r tags :: k) Q .normal ((s.setOb id ⟨ver, ev, .box (patch cs off y.cells)⟩).put d (.c .any))) : kont P (.t (.op oi [] d none q (.store n x v) r) tags :: k) Q .normal s :=
  kOp (fun _ => trivial) (by
    simp only [Bool.and_eq_true, decide_eq_true_eq, Bool.not_eq_true'] at hb
    obtain ⟨⟨⟨⟨h1, h2⟩, h3⟩, h4⟩, h5⟩ := hb
    simp only [stepO, storeA, hx, hv, St.obj, ho, if_true]
    exact ⟨by simpa using h1, h2, h3, h4, h5, h⟩)
def nodupB : List Nat → Bool
  | [] => true
  | x :: xs => !xs.contains x && nodupB xs
theorem nodupB_sound : ∀ {l : List Nat}, nodupB l = true → l.Nodup
  | [], _ => List.nodup_nil
  | x :: xs, h => by
    simp only [nodupB, Bool.and_eq_true, Bool.not_eq_true'] at h
    exact List.nodup_cons.2 ⟨by simpa using h.1, nodupB_sound h.2⟩
def callB (s : St) (e : Nat) (avs : List AV) (gas : List GA) (clean : Bool) : Bool :=
  nodupB ((bindGs 0 avs gas).map (·.2.1)) && (bindGs 0 avs gas).all (fun b => !s.hold.contains b.2.1) &&
  ((stabGs s avs gas && (!looksGs avs gas || (bindGs 0 avs gas).isEmpty)) || (clean && (bindGs 0 avs gas).isEmpty)) && decide (gas.length ≤ 60) && s.hold.all (fun q => !(decide (rid e 0 ≤ q) && decide (q < rid e 4096)))
theorem kCall {e f : Nat} {args : List X} {gas : List GA} {R : List RA → Outs → Prop} (clean : Bool) (hok : FnOK P f gas R) (hm : matchGs P s (args.map s.ev) gas) (hb : callB s e (args.map s.ev) gas clean = true)
    (hc : clean = true → ∀ ra os, R ra os → ra.all RA.clean = true) (hl : ∀ ra os, R ra os → ra.length ≤ 64)
    (h : ∀ ra os, R ra os → kont P (.t r tags :: k) Q .normal ((s.after e ra (bindGs 0 (args.map s.ev) gas) os).put d (resV s e ra))) : kont P (.t (.op oi [] d none q (.call e f args) r) tags :: k) Q .normal s :=
  kOp (fun _ => trivial) (by
    simp only [callB, Bool.and_eq_true, Bool.or_eq_true, decide_eq_true_eq] at hb
    obtain ⟨⟨⟨⟨h1, h2⟩, h3⟩, h4⟩, h5⟩ := hb
    refine .inl ⟨gas, R, hok, hm, nodupB_sound h1, fun b hb' => by simpa using List.all_eq_true.1 h2 b hb', ?_, h4, hl, fun q h6 h7 h8 => ?_, h⟩
    · rcases h3 with ⟨g1, g2⟩ | ⟨g1, g2⟩
      · refine .inl ⟨g1, fun hk => ?_⟩
        rcases g2 with g2 | g2
        · rw [hk] at g2; simp at g2
        · simpa using g2
      · exact .inr ⟨hc g1, by simpa using g2⟩
    · have := List.all_eq_true.1 h5 q h8
      simp only [Bool.not_eq_true', Bool.and_eq_false_iff, decide_eq_false_iff_not] at this
      rcases this with h | h <;> omega)
theorem kCall1 {e f : Nat} {args : List X} {gas : List GA} {ra : List RA} (clean : Bool) (hok : FnOK P f gas (fun ra' _ => ra' = ra)) (hm : matchGs P s (args.map s.ev) gas) (hb : callB s e (args.map s.ev) gas clean = true)
    (hc : (!clean || ra.all RA.clean) = true) (hl : decide (ra.length ≤ 64) = true)
    (h : ∀ os, kont P (.t r tags :: k) Q .normal ((s.after e ra (bindGs 0 (args.map s.ev) gas) os).put d (resV s e ra))) : kont P (.t (.op oi [] d none q (.call e f args) r) tags :: k) Q .normal s :=
  kCall clean hok hm hb (fun hcl ra' _ e => by subst e; rw [hcl] at hc; simpa using hc) (fun ra' _ e => by subst e; simpa using hl) (fun ra' os e => by subst e; exact h os)
theorem kCallS {e f : Nat} {args : List X} {gas : List GA} {R : List RA → Outs → Prop} {id ver ev i : Nat} {x : DV} (hok : FnOK P f gas R) (ho : s.ob id = ⟨ver, ev, .arr true x⟩) (hm : matchSGs id ver ev i x (args.map s.ev) gas)
    (hi : i < x.rows.length) (hb : (!s.hold.contains id && nodupB ((subGs 0 (args.map s.ev) gas).map (·.2))) = true)
    (h : ∀ ra os, R ra os → ∃ v, ra = [.one (.d (.sc v))] ∧ kont P (.t r tags :: k) Q .normal ((s.setOb id ⟨ver, ev + 1, .arr true (backS i os (subGs 0 (args.map s.ev) gas) x)⟩).put d (.vv v))) : kont P (.t (.op oi [] d none q (.call e f args) r) tags :: k) Q .normal s :=
  kOp (fun _ => trivial) (by
    simp only [Bool.and_eq_true] at hb
    exact .inr (.inl ⟨gas, R, id, ver, ev, i, x, hok, ho, by simpa using hb.1, hi, hm, nodupB_sound hb.2, h⟩))
end
end Hearth

/- The abstract machine: states that say less. -/
namespace Hearth
open Go
def WkV (v v' : AV) : Prop := ∀ (P : Program) (w : World) (own : Nat → Nat → Prop) (hdr : Nat → Value) (ob : Nat → Ob) (u : Value), RS P w own hdr ob v u → RS P w own hdr ob v' u
theorem WkV.refl (v : AV) : WkV v v := fun _ _ _ _ _ _ h => h
theorem WkV.any (v : AV) : WkV v (.c .any) := fun _ _ _ _ _ _ _ => trivial
theorem WkV.nil (sz : Nat) : WkV (.c (.nil sz)) (.dv (.sl sz [])) := fun _ _ _ _ _ u h => by
  show Pers _ _ _ u
  rw [show u = .slice none 0 0 from h]
  exact .emp _ _ _
def tabSl : List (Nat × AV) → Nat → AV
  | [], _ => .c .any
  | (i, v) :: l, j => if j = i then v else tabSl l j
def chk (s : St) : List (Nat × AV) → Prop
  | [] => True
  | (i, v) :: l => WkV (s.sl i) v ∧ chk s l
theorem tab_wk {s : St} : ∀ {l : List (Nat × AV)}, chk s l → ∀ j, WkV (s.sl j) (tabSl l j)
  | [], _, j => .any _
  | (i, v) :: l, h, j => by
    simp only [tabSl]
    split
    · rename_i e; rw [e]; exact h.1
    · exact tab_wk h.2 j
theorem Sub.sl {s t : St} (ho : t.ob = s.ob) (h : ∀ j, WkV (s.sl j) (t.sl j)) : Sub s t := by
  rintro P N w0 own0 hdr0 a w ⟨own, hdr, r⟩
  refine ⟨own, hdr, r.n, r.defers, fun j => ?_, ?_, ?_, ?_, r.dis, r.lt, r.ext, ?_, r.new, by simp⟩
  · rw [ho]; exact h j _ _ _ _ _ _ (r.tmps j)
  · rw [ho]; exact r.objs
  · rw [ho]; exact r.al
  · rw [ho]; exact r.alv
  · rw [ho]; exact r.zero
theorem Sub.tab {s : St} {l : List (Nat × AV)} {ob : Nat → Ob} {h : List Nat} (ho : ob = s.ob) (hc : chk s l) : Sub s ⟨tabSl l, ob, h⟩ := Sub.sl ho (tab_wk hc)
open Classical in
/-- Objects are forgotten. -/
theorem Sub.drop {s t : St} (hs : t.sl = s.sl) (h : ∀ id, t.ob id = s.ob id ∨ (id ≠ alien ∧ (t.ob id).k = .dead ∧ (s.ob id).ver < (t.ob id).ver)) : Sub s t := by
  rintro P N w0 own0 hdr0 a w ⟨own, hdr, r⟩
  let own' : Nat → Nat → Prop := fun id => if t.ob id = s.ob id then own id else fun _ => False
  let hdr' : Nat → Value := fun id => if t.ob id = s.ob id then hdr id else undef
  have hu : Upd own hdr s.ob w own' hdr' t.ob w (fun id => t.ob id ≠ s.ob id) := by
    refine ⟨fun hne => ?_, fun id hU => ?_, Ext.refl _ _, fun id hU b hb => ?_, fun i j b hi _ hb _ => ?_, fun id hU => ?_⟩
    · rcases h alien with h | h
      · exact hne h
      · exact h.1 rfl
    · have : t.ob id = s.ob id := Classical.not_not.1 hU
      simp only [own', hdr', if_pos this]
      exact ⟨trivial, trivial, this⟩
    · simp only [own', if_neg hU] at hb
    · simp only [own', if_neg hi] at hb
    · rcases h id with h | ⟨_, _, h⟩
      · exact absurd h hU
      · exact ⟨Nat.le_of_lt h, fun e => by omega⟩
  have r' := (r.hold []).upd hu (by simp) (fun _ id hU => by
    rcases h id with h | ⟨_, hk, _⟩
    · exact absurd h hU
    · unfold RO
      rw [hk]
      simp [own', hdr', hU])
  refine ⟨own', hdr', r'.n, r'.defers, fun j => ?_, r'.objs, r'.al, r'.alv, r'.dis, r'.lt, r'.ext, r'.zero, r'.new, by simp⟩
  rw [hs]; exact r'.tmps j
theorem Sub.frz {s : St} {j id ver ev : Nat} {dp : Bool} {x : DV} (hj : s.sl j = .c (.arr id ver)) (ho : s.ob id = ⟨ver, ev, .arr dp x⟩) (hv : 0 < ver) : Sub s ⟨upd s.sl j (.dv x), upd s.ob id ⟨ver, ev + 1, .frz x⟩, []⟩ := by
  rintro P N w0 own0 hdr0 a w ⟨own, hdr, r⟩
  have ht := r.tmps j
  rw [hj] at ht
  have hv' := ht.2 (by rw [ho])
  obtain ⟨own', hdr', r', hp⟩ := (r.hold []).freeze (id := id) (dp := dp) (x := x) (by show (s.ob id).k = _; rw [ho]) (by simp) (by show 0 < (s.ob id).ver; rw [ho]; exact hv)
  have h2 := (r'.same (d := j) (x := .dv x) (by rw [hv']; exact hp)).hold []
  refine ⟨own', hdr', ?_⟩
  have : (s.ob id).ver = ver ∧ (s.ob id).ev = ev := by rw [ho]; exact ⟨rfl, rfl⟩
  have e : ({ s with hold := [] } : St).ob id = s.ob id := rfl
  simp only [St.put, St.setOb, e, this.1, this.2] at h2
  exact h2
def EndQ (gas : List GA) (slots : List RSl) (R : List RA → Outs → Prop) (e : Ex) (s : St) : Prop :=
  (∀ id, e ≠ .exit id) ∧ ∃ ra avs, R ra s.outs ∧ s.resAts slots = some avs ∧ EndOK gas avs ra s
theorem endRet {gas : List GA} {slots : List RSl} {R : List RA → Outs → Prop} {s : St} {ra : List RA} {avs : List AV} (h : s.resAts slots = some avs) (he : EndOK gas avs ra s) (hR : R ra s.outs) : EndQ gas slots R .ret s :=
  ⟨nofun, ra, avs, hR, h, he⟩
theorem FnOK.ofK {P : Program} {f : FuncId} {fn : Func} {c' : C} {loud : List Nat} {slots : List RSl} {gas : List GA} {R : List RA → Outs → Prop} (hf : P.funcs[f]? = some fn) (hname : (fn.name == "runtime.NumGoroutine") = false)
    (hd : fn.body.bind (digC P fn.ntmps loud) = some c') (hr : resSlots P fn = some slots) (hN : Nat.ble gas.length fn.ntmps = true) (h63 : Nat.ble gas.length 63 = true)
    (h : kont P [.c c'] (EndQ gas slots R) .normal (.init gas)) : FnOK P f gas R := by
  refine FnOK.of hf hname hd hr hN h63 ?_
  obtain ⟨t, h1, h2⟩ := h
  exact ⟨t, h1, (wpC_congr fun e s => by cases e <;> rfl).mp h2⟩
end Hearth

/- The abstract machine: more rules for operations. -/
namespace Hearth
open Go
section
variable {P : Program} {k : List It} {Q : Ex → St → Prop} {s : St} {d : Option Nat} {q : Bool} {r : T} {oi : Nat} {tags : List Nat}
theorem kMk {e sz bytes : Nat} {zs : List X} {n : X} {j : IntKind} {m : Int} {ds : List DV} {dp : Bool} (hn : s.ev n = .vv (.int j m)) (hm : 0 ≤ m ∧ m * bytes ≤ 140737488355328 ∧ m ≤ 9223372036854775807) (hz : zs.length = sz) (h0 : Nat.ble 1 sz = true) (hh : s.hold.contains (rid e 0) = false)
    (hp : s.parts (zs.map X.ac) = some (ds, dp, [])) {vv ve : Nat} {vk : OK} (hob : s.ob (rid e 0) = ⟨vv, ve, vk⟩)
    (h : kont P (.t r tags :: k) Q .normal ((s.setOb (rid e 0) ⟨vv + 1, 0, .arr dp (.sl sz (List.replicate m.toNat ds))⟩).put d (.c (.arr (rid e 0) (vv + 1))))) : kont P (.t (.op oi [] d none q (.mk e sz zs bytes n) r) tags :: k) Q .normal s :=
  kOp (fun _ => trivial) (by
    have hvv : (s.ob (rid e 0)).ver = vv := by rw [hob]
    subst hvv
    simp only [stepO, hn]
    refine ⟨hm, hz, Nat.le_of_ble_eq_true h0, by simpa using hh, ?_⟩
    rw [hp]; exact h)
theorem kStoreE1 {x v : X} {id ver ev i off : Nat} {y : DV} {dp : Bool} {u : Value} (hx : s.ev x = .c (.ept id ver i off)) (hv : s.ev v = .vv u) (ho : s.ob id = ⟨ver, ev, .arr dp y⟩) (hh : s.hold.contains id = false) (hoff : off + 1 ≤ y.esz)
    (h : kont P (.t r tags :: k) Q .normal ((s.setOb id ⟨ver, ev + 1, .arr (dp && true) (setRow y i off [.sc u])⟩).put d (.c .any))) : kont P (.t (.op oi [] d none q (.store none x v) r) tags :: k) Q .normal s :=
  kOp (fun _ => trivial) (by
    simp only [stepO, storeA, hx, hv, St.obj, ho, if_true]
    refine ⟨by simpa using hh, rfl, by simp, by simp, by simp, hoff, by simp, .inl rfl, ?_⟩
    have : s.kill ([] ++ []) = s := St.kill_nil s
    rw [this]; exact h)
theorem kStoreEA {x v : X} {id ver ev i off id2 ver2 ev2 : Nat} {y z : DV} {dp dp2 : Bool} (hx : s.ev x = .c (.ept id ver i off)) (hv : s.ev v = .c (.arr id2 ver2)) (ho : s.ob id = ⟨ver, ev, .arr dp y⟩) (ho2 : s.ob id2 = ⟨ver2, ev2, .arr dp2 z⟩)
    (hh : (!s.hold.contains id && !s.hold.contains id2 && !(id == id2)) = true) (hver : 0 < ver) (hoff : off + 1 ≤ y.esz)
    (h : kont P (.t r tags :: k) Q .normal (((s.kill [id2]).setOb id ⟨ver, ev + 1, .arr (dp && (dp2 && true)) (setRow y i off [z])⟩).put d (.c .any))) : kont P (.t (.op oi [] d none q (.store none x v) r) tags :: k) Q .normal s :=
  kOp (fun _ => trivial) (by
    simp only [Bool.and_eq_true, Bool.not_eq_true'] at hh
    simp only [stepO, storeA, hx, hv, St.obj, ho, if_true, AV.cells, St.parts, St.part, ho2]
    refine ⟨by simpa using hh.1.1, rfl, by simpa using hh.2, by simp, by simpa using hh.1.2, hoff, by simp, .inr hver, h⟩)
theorem kStoreE {n : Option Nat} {x v : X} {id ver ev i off : Nat} {y : DV} {dp dp2 : Bool} {u : AV} {ds : List DV} {ids : List Nat} (hx : s.ev x = .c (.ept id ver i off)) (hv : s.ev v = u) (ho : s.ob id = ⟨ver, ev, .arr dp y⟩) (hp : s.parts u.cells = some (ds, dp2, ids))
    (hh : (!s.hold.contains id && ids.all (fun j => !s.hold.contains j) && !ids.contains id && nodupB ids && decide (u.shape = n) && decide (0 < ds.length)) = true) (hver : ids = [] ∨ 0 < ver) (hoff : off + ds.length ≤ y.esz)
    (h : kont P (.t r tags :: k) Q .normal (((s.kill ids).setOb id ⟨ver, ev + 1, .arr (dp && dp2) (setRow y i off ds)⟩).put d (.c .any))) : kont P (.t (.op oi [] d none q (.store n x v) r) tags :: k) Q .normal s :=
  kOp (fun _ => trivial) (by
    simp only [Bool.and_eq_true, decide_eq_true_eq, Bool.not_eq_true'] at hh
    obtain ⟨⟨⟨⟨⟨h1, h2⟩, h3⟩, h4⟩, h5⟩, h6⟩ := hh
    simp only [stepO, storeA, hx, hv, St.obj, ho, if_true, hp]
    exact ⟨by simpa using h1, h5, by simpa using h3, nodupB_sound h4, fun j hj => by simpa using List.all_eq_true.1 h2 j hj, hoff, h6, hver, h⟩)
theorem kApp {e sz bytes : Nat} {x y : X} {cx cy : AC} {dp dp' : Bool} {xs ys : DV} {ids : List Nat} {id v ve : Nat} {vk : OK} (hx : s.ev x = .c cx) (hy : s.ev y = .c cy) (hb : s.base cx = some (dp, xs)) (hs : s.src cy = some (dp', ys, ids)) (hid : cx.ownId e = id) (hob : s.ob id = ⟨v, ve, vk⟩)
    (hsz : xs.esz = sz ∧ ys.esz = sz ∧ 0 < sz) (hh : (!s.hold.contains id && ids.all (fun j => !s.hold.contains j) && !ids.contains id && (match cy with | .arr j _ => !(j == id) | _ => true)) = true)
    (hlen : (xs.len + ys.len) * bytes ≤ 140737488355328 ∧ xs.len + ys.len ≤ 9223372036854775807)
    (h : kont P (.t r tags :: k) Q .normal (((s.kill ids).setOb id ⟨v + 1, 0, .arr (dp && dp') (xs.app ys)⟩).put d (.c (.arr id (v + 1))))) : kont P (.t (.op oi [] d none q (.app e sz bytes x y) r) tags :: k) Q .normal s :=
  kOp (fun _ => trivial) (by
    subst hid
    simp only [Bool.and_eq_true, Bool.not_eq_true'] at hh
    obtain ⟨⟨⟨h1, h2⟩, h3⟩, h4⟩ := hh
    have h3' : cx.ownId e ∉ ids := by simpa using h3
    have hvv : (s.ob (cx.ownId e)).ver = v := by rw [hob]
    have hkv : ((s.kill ids).ob (cx.ownId e)).ver = v := by simp [St.kill, h3', hvv]
    simp only [stepO, hx, hy, appA, hb, hs]
    refine ⟨hsz.1, hsz.2.1, hsz.2.2, by simpa using h1, fun j hj => by simpa using List.all_eq_true.1 h2 j hj, h3', hlen.1, hlen.2, ?_, ?_⟩
    · cases cy <;> simp_all
    · rw [St.newOb, hkv, hvv]; exact h)
theorem kLit {e sz n : Nat} {zs : List X} {ps : List (Nat × Nat × X)} {cs : List AC} {ds : List DV} {dp : Bool} {ids : List Nat} (hf : s.fill ((List.replicate n (zs.map X.ac)).flatten) ps = some cs) (hp : s.parts cs = some (ds, dp, ids))
    (hb : (Nat.beq cs.length (n * sz) && Nat.beq zs.length sz && Nat.ble (n * sz) 16777216 && Nat.ble n 9223372036854775807 && !s.hold.contains (rid e 0) && nodupB ids && ids.all (fun j => !s.hold.contains j) && !ids.contains (rid e 0)) = true) {vv ve : Nat} {vk : OK} (hob : s.ob (rid e 0) = ⟨vv, ve, vk⟩)
    (h : kont P (.t r tags :: k) Q .normal (((s.kill ids).setOb (rid e 0) ⟨vv + 1, 0, .arr dp (.sl sz (chunk sz n ds))⟩).put d (.c (.arr (rid e 0) (vv + 1))))) : kont P (.t (.op oi [] d none q (.lit e sz zs n ps) r) tags :: k) Q .normal s :=
  kOp (fun _ => trivial) (by
    simp only [Bool.and_eq_true, Bool.not_eq_true', Nat.beq_eq, Nat.ble_eq] at hb
    obtain ⟨⟨⟨⟨⟨⟨⟨h1, h2⟩, h3⟩, h4⟩, h5⟩, h6⟩, h7⟩, h8⟩ := hb
    have h8' : rid e 0 ∉ ids := by simpa using h8
    have hvv : (s.ob (rid e 0)).ver = vv := by rw [hob]
    have hkv : ((s.kill ids).ob (rid e 0)).ver = vv := by simp [St.kill, h8', hvv]
    simp only [stepO, litA, hf, hp]
    refine .inl ⟨h1, h2, h3, h4, by simpa using h5, nodupB_sound h6, fun j hj => by simpa using List.all_eq_true.1 h7 j hj, h8', ?_⟩
    rw [St.newOb, hkv, hvv]; exact h)
theorem newOb_ob (s : St) (id : Nat) (k : OK) : (s.newOb id k).ob id = ⟨(s.ob id).ver + 1, 0, k⟩ := upd_same _ _ _
theorem newOb_two (s : St) (id : Nat) (k k' : OK) : (s.newOb id k).newOb id k' = s.setOb id ⟨(s.ob id).ver + 1 + 1, 0, k'⟩ := by
  unfold St.newOb
  have e : (s.setOb id ⟨(s.ob id).ver + 1, 0, k⟩).ob id = ⟨(s.ob id).ver + 1, 0, k⟩ := upd_same _ _ _
  rw [e]
  unfold St.setOb
  refine congrArg (fun o => (⟨s.sl, o, s.hold⟩ : St)) (funext fun j => ?_)
  by_cases hj : j = id
  · rw [hj, upd_same, upd_same]
  · rw [upd_ne _ _ _ _ hj, upd_ne _ _ _ _ hj]
    exact upd_ne _ _ _ _ hj
theorem frzK_arr {K : AV → St → Prop} {s : St} {id ver ev sz : Nat} {dp : Bool} {xs : List (List DV)} (ho : s.ob id = ⟨ver, ev, .arr dp (.sl sz xs)⟩) (hh : id ∉ s.hold) (hK : K (.dv (.sl sz xs)) (s.newOb id .dead)) : frzK K (.c (.arr id ver)) s := by
  simp only [frzK, St.obj, ho, if_true]
  exact ⟨hh, hK⟩
theorem kLitD0 {e sz n : Nat} {zs : List X} {ps : List (Nat × Nat × X)} {cs : List AC} {ds : List DV} {dp : Bool} {ids : List Nat} (hf : s.fill ((List.replicate n (zs.map X.ac)).flatten) ps = some cs) (hp : s.parts cs = some (ds, dp, ids))
    (hb : (Nat.beq cs.length (n * sz) && Nat.beq zs.length sz && Nat.ble (n * sz) 16777216 && Nat.ble n 9223372036854775807 && !s.hold.contains (rid e 0) && nodupB ids && ids.all (fun j => !s.hold.contains j) && !ids.contains (rid e 0)) = true) {vv ve : Nat} {vk : OK} (hob : s.ob (rid e 0) = ⟨vv, ve, vk⟩)
    (h : kont P (.t r tags :: k) Q .normal (((s.kill ids).setOb (rid e 0) ⟨vv + 1 + 1, 0, .dead⟩).put d (.dv (.sl sz (chunk sz n ds))))) : kont P (.t (.op oi [] d none q (.lit e sz zs n ps) r) tags :: k) Q .normal s := by
  generalize hid : rid e 0 = id at *
  simp only [Bool.and_eq_true, Bool.not_eq_true', Nat.beq_eq, Nat.ble_eq] at hb
  obtain ⟨⟨⟨⟨⟨⟨⟨h1, h2⟩, h3⟩, h4⟩, h5⟩, h6⟩, h7⟩, h8⟩ := hb
  have h8' : id ∉ ids := by simpa using h8
  have h5' : id ∉ s.hold := by simpa using h5
  have h7' : ∀ j ∈ ids, j ∉ s.hold := fun j hj => by simpa using List.all_eq_true.1 h7 j hj
  have hvv : (s.ob id).ver = vv := by rw [hob]
  have hkv : ((s.kill ids).ob id).ver = vv := by simp [St.kill, h8', hvv]
  refine kOp (fun _ => trivial) (.inr ?_)
  simp only [litA, hf, hp, hid]
  refine ⟨h1, h2, h3, h4, h5', nodupB_sound h6, h7', h8', ?_⟩
  refine frzK_arr (ev := 0) (dp := dp) (sz := sz) (xs := chunk sz n ds) ?_ h5' ?_
  · rw [newOb_ob, hkv, hvv]
  · rw [newOb_two, hkv]
    exact h
theorem kEqn {ne : Bool} {x : X} {c : AC} {y : DV} (hx : s.ev x = .c c) (hr : s.rd c = some y) (hsl : y.isSl = true) (h : ∀ b : Bool, (0 < y.len → b = false) → kont P (.t r tags :: k) Q .normal (s.put d (.b (if ne then !b else b)))) : kont P (.t (.op oi [] d none q (.eqn ne x) r) tags :: k) Q .normal s :=
  kOp (fun _ => trivial) (by
    simp only [stepO, hx]
    split
    · rename_i sz he
      cases he
      simp only [St.rd, Option.some.injEq] at hr
      subst hr
      have := h true (by simp [DV.len])
      cases ne <;> exact this
    · rename_i c' _ he
      cases he
      simp only [hr]
      exact ⟨hsl, h⟩
    · rename_i h1 h2
      exact absurd rfl (h2 c))
theorem kClo {f : Nat} {first caps : List X} {fs : List DA} {vs : List (Nat × Nat)} (hf : (first.map s.ev).mapM daOf = some fs) (hc : (caps.map s.ev).mapM capOf = some vs) (h : kont P (.t r tags :: k) Q .normal (s.put d (.c (.fn f fs vs)))) :
    kont P (.t (.op oi [] d none q (.clo f first caps) r) tags :: k) Q .normal s :=
  kOp (fun _ => trivial) ⟨fs, vs, hf, hc, h⟩
theorem kCallv {e : Nat} {x : X} {args : List X} {p : Bool} {C : FC} {as : List DA} {R : List RA → Prop} (hx : s.ev x = .c (.fv p C)) (hC : C as R) (hm : matchGs P s (args.map s.ev) (as.map DA.ga))
    (hb : (p && stabGs s (args.map s.ev) (as.map DA.ga)) = true ∨ ∀ ra, R ra → ra.all RA.clean = true) (hl : Nat.ble as.length 64 = true) (hra : ∀ ra, R ra → ra.length ≤ 64) (hh : s.hold.all (fun q => !(decide (rid e 0 ≤ q) && decide (q < rid e 4096))) = true)
    (h : ∀ ra, R ra → kont P (.t r tags :: k) Q .normal ((s.after e ra [] ⟨fun _ => .sl 0 [], fun _ => []⟩).put d (resV s e ra))) : kont P (.t (.op oi [] d none q (.callv e x args) r) tags :: k) Q .normal s :=
  kOp (fun _ => trivial) (by
    simp only [stepO, hx]
    refine ⟨as, R, hC, hm, hb.imp (fun h => by simpa using h) id, Nat.le_of_ble_eq_true hl, hra, fun q h1 h2 h3 => ?_, h⟩
    have := List.all_eq_true.1 hh q h3
    simp only [Bool.not_eq_true', Bool.and_eq_false_iff, decide_eq_false_iff_not] at this
    rcases this with h | h <;> omega)
end
end Hearth

/- Data of Go's as data of the abstract machine. -/
namespace Hearth
open Go
theorem upd_self {α : Type} {f : Nat → α} {i : Nat} {x : α} (h : f i = x) : upd f i x = f := by
  funext j
  unfold upd
  split
  · rename_i e; rw [e]; exact h.symm
  · rfl
theorem upd_upd {α : Type} (f : Nat → α) (i : Nat) (x y : α) : upd (upd f i x) i y = upd f i y := by
  funext j
  unfold upd
  split <;> rfl
theorem len_encB (b : List UInt8) : (encB b).len = b.length := by simp [encB, DV.len]
theorem row_encB (b : List UInt8) (i : Nat) (h : i < b.length) : (encB b).row i = [.sc (.int .u8 (b[i]).toNat)] := by
  unfold DV.row encB DV.rows
  rw [List.getD_eq_getElem?_getD, List.getElem?_map, List.getElem?_eq_getElem h]
  rfl
theorem row_encB' (b : List UInt8) (n : Int) (h : n.toNat < b.length) : (encB b).row n.toNat = [.sc (.int .u8 (b[n.toNat]).toNat)] := row_encB b _ h
def u8 (k : Int) : UInt8 := UInt8.ofNat (k % 256).toNat
theorem u8_toNat (k : Int) : ((u8 k).toNat : Int) = IntKind.u8.wrap k := by
  have : (k % 256).toNat < 256 := by omega
  simp [u8, IntKind.wrap, IntKind.bits, IntKind.signed]
  omega
theorem setRow_encB (b : List UInt8) (i : Nat) (k : Int) (h : i < b.length) : setRow (encB b) i 0 [.sc (.int .u8 (IntKind.u8.wrap k))] = encB (b.set i (u8 k)) := by
  unfold setRow
  rw [row_encB b i h]
  simp [encB, DV.esz, DV.rows, List.map_set, u8_toNat]
theorem setRow_encB' (b : List UInt8) (i : Nat) (v : UInt8) (h : i < b.length) : setRow (encB b) i 0 [.sc (.int .u8 v.toNat)] = encB (b.set i v) := by
  unfold setRow
  rw [row_encB b i h]
  simp [encB, DV.esz, DV.rows, List.map_set]
def encBB (l : List (List UInt8)) : DV := .sl 1 (l.map fun b => [encB b])
theorem len_encBB (b : List (List UInt8)) : (encBB b).len = b.length := by simp [encBB, DV.len]
theorem row_encBB (b : List (List UInt8)) (i : Nat) (h : i < b.length) : (encBB b).row i = [encB b[i]] := by
  unfold DV.row encBB DV.rows
  rw [List.getD_eq_getElem?_getD, List.getElem?_map, List.getElem?_eq_getElem h]
  rfl
theorem at_encBB (b : List (List UInt8)) (i : Nat) (h : i < b.length) : (encBB b).at i 0 = encB b[i] := by
  refine DV.at_eq (cs := [encB b[i]]) ?_ rfl
  simp [encBB, DV.rows, h]
theorem setRow_encBB (b : List (List UInt8)) (i : Nat) (v : List UInt8) (h : i < b.length) : setRow (encBB b) i 0 [encB v] = encBB (b.set i v) := by
  unfold setRow
  rw [row_encBB b i h]
  simp [encBB, DV.esz, DV.rows, List.map_set]
theorem setCell_encBB (b : List (List UInt8)) (i : Nat) (v : List UInt8) (h : i < b.length) : (encBB b).setCell i 0 (encB v) = encBB (b.set i v) := by
  unfold DV.setCell encBB DV.rows DV.esz
  rw [List.getD_eq_getElem?_getD, List.getElem?_map, List.getElem?_eq_getElem h]
  simp [List.map_set]
theorem take_set_succ {α : Type} (l m : List α) (i : Nat) (v : α) (hi : i < m.length) (hl : l.length = i) : (l ++ m.drop i).set i v = (l ++ [v]) ++ m.drop (i + 1) := by
  rw [List.drop_eq_getElem_cons hi, List.set_append_right _ _ (by omega), hl, Nat.sub_self, List.set_cons_zero, List.append_assoc]
  rfl
def marks (n : Nat) (k : Int) : List UInt8 := (List.range n).map fun i : Nat => u8 (k + (i : Int))
theorem marks_len (n : Nat) (k : Int) : (marks n k).length = n := by simp [marks]
theorem marks_succ (n : Nat) (k : Int) : marks (n + 1) k = marks n k ++ [u8 (k + n)] := by simp [marks, List.range_succ]
end Hearth
namespace Hearth
open Go
def lst (l : List DV) : DV := .sl 1 (l.map fun x => [x])
theorem len_lst (l : List DV) : (lst l).len = l.length := by simp [lst, DV.len]
theorem row_lst (l : List DV) (i : Nat) (h : i < l.length) : (lst l).row i = [l[i]] := by
  unfold DV.row lst DV.rows
  rw [List.getD_eq_getElem?_getD, List.getElem?_map, List.getElem?_eq_getElem h]
  rfl
theorem encB_lst (l : List UInt8) : encB l = lst (l.map fun b => .sc (.int .u8 b.toNat)) := by simp [encB, lst]
theorem encBB_lst (l : List (List UInt8)) : encBB l = lst (l.map encB) := by simp [encBB, lst]
theorem noNest_encB (b : List UInt8) : noNest (encB b) = true := by
  simp [noNest, encB, DV.rows, DV.isSc]
theorem src_encB (s : St) (b : List UInt8) : s.src (.d (encB b)) = some (true, encB b, []) := by
  show some (noNest (encB b), encB b, []) = _
  rw [noNest_encB]
def fcPred (D : DV → Prop) (g : DV → Bool) : FC := fun as R => ∃ x, D x ∧ as = [DA.one x] ∧ R = fun ra => ra = [.one (.d (.sc (.bool (g x))))]
end Hearth

/- Arguments of a law, as data of the abstract machine. -/
namespace Hearth
open Go
inductive Sh where
  | int (k : IntKind)
  | bool
  | str
  | sl (l : List Sh)
def shOk : Nat → Sh → DV → Prop
  | _ + 1, .int k, .sc (.int k' m) => k' = k ∧ (Lit.int k m).wf = true
  | _ + 1, .bool, .sc (.bool _) => True
  | _ + 1, .str, .sc (.string b) => b.size ≤ maxLen
  | n + 1, .sl l, .sl sz rows => sz = l.length ∧ 0 < sz ∧ rows.length ≤ maxLen ∧ ∀ row ∈ rows, row.length = l.length ∧ ∀ (j : Nat) (sh : Sh) (y : DV), l[j]? = some sh → row[j]? = some y → shOk n sh y
  | _, _, _ => False
theorem shOk_mono : ∀ {n : Nat} {sh : Sh} {y : DV}, shOk n sh y → shOk (n + 1) sh y
  | 0, _, _, h => by simp [shOk] at h
  | n + 1, .int k, .sc (.int k' m), h => h
  | n + 1, .bool, .sc (.bool _), _ => trivial
  | n + 1, .str, .sc (.string b), h => h
  | n + 1, .sl l, .sl sz rows, ⟨h1, h2, h3, h4⟩ => ⟨h1, h2, h3, fun row hr => ⟨(h4 row hr).1, fun j sh y a b => shOk_mono ((h4 row hr).2 j sh y a b)⟩⟩
def structSh (P : Program) (go : TypeId → Option (List Sh)) : Nat → List Field → Option (List Sh)
  | _, [] => some []
  | off, f :: fs => if f.offset = off then match go f.type with
      | some l => if l.length = P.cellsOf f.type then (structSh P go (off + l.length) fs).map (l ++ ·) else none
      | none => none
    else none
def cellsSh (P : Program) : Nat → TypeId → Option (List Sh)
  | 0, _ => none
  | n + 1, t => match P.underlying t with
    | some (.int k) => some [.int k]
    | some .bool => some [.bool]
    | some .string => some [.str]
    | some (.slice e) => match cellsSh P n e with
      | some l => if l.length = P.cellsOf e ∧ 0 < l.length then some [.sl l] else none
      | none => none
    | some (.struct fs) => match structSh P (cellsSh P n) 0 fs.toList with
      | some l => if l.length = P.cellsOf t then some l else none
      | none => none
    | _ => none
section
variable {H : Type} {enc : TypeId × Value → H} {P : Program} {w : World} {base : Nat} {spare : Nat → Bool} {held : Bool}
theorem add_spot {a : Addr} {n : Nat} (h : a.spot = none) : a.add n = ⟨a.block, a.off + n, none⟩ := by
  unfold Addr.add
  split
  · rename_i h0; subst h0; cases a; simp_all
  · rfl
theorem structSh_get {go : TypeId → Option (List Sh)} : ∀ {fs : List Field} {off : Nat} {l : List Sh}, structSh P go off fs = some l → ∀ (j : Nat) (sh : Sh), l[j]? = some sh →
    ∃ (i : Nat) (f : Field) (lf : List Sh) (j' : Nat), fs[i]? = some f ∧ go f.type = some lf ∧ lf.length = P.cellsOf f.type ∧ lf[j']? = some sh ∧ off + j = f.offset + j'
  | [], off, l, h, j, sh, hj => by simp [structSh] at h; subst h; simp at hj
  | f :: fs, off, l, h, j, sh, hj => by
    simp only [structSh] at h
    split at h
    · rename_i hoff
      split at h
      · rename_i lf hlf
        split at h
        · rename_i hlen
          simp only [Option.map_eq_some_iff] at h
          obtain ⟨l', hl', rfl⟩ := h
          by_cases hjl : j < lf.length
          · rw [List.getElem?_append_left hjl] at hj
            exact ⟨0, f, lf, j, rfl, hlf, hlen, hj, by rw [hoff]⟩
          · rw [List.getElem?_append_right (by omega)] at hj
            obtain ⟨i, f', lf', j', e1, e2, e3, e4, e5⟩ := structSh_get hl' _ sh hj
            exact ⟨i + 1, f', lf', j', by simpa using e1, e2, e3, e4, by omega⟩
        · simp at h
      · simp at h
    · simp at h
theorem trod_sh : ∀ {n : Nat} {t : TypeId} {fuel : Nat} {cs : List Value} {x : DataW H × List MemPlace} {l : List Sh}, cellsSh P n t = some l → DataW.trod enc P w base spare held fuel t cs = some x →
    cs.length = l.length ∧ ∀ (j : Nat) (u : Value) (sh : Sh), cs[j]? = some u → l[j]? = some sh → ∃ y, Pers w (All w) y u ∧ shOk n sh y
  | 0, _, _, _, _, _, h, _ => by simp [cellsSh] at h
  | n + 1, t, fuel, cs, x, l, h, hx => by
    simp only [cellsSh] at h
    split at h
    · rename_i k ht
      simp at h; subst h
      obtain ⟨m, rfl, _, hw⟩ := DataW.trod_int ht hx
      refine ⟨rfl, fun j u sh h1 h2 => ?_⟩
      cases j with
      | zero => simp at h1 h2; subst h1; subst h2; exact ⟨.sc (.int k m), .sc _ rfl, rfl, hw⟩
      | succ j => simp at h1
    · rename_i ht
      simp at h; subst h
      obtain ⟨b, rfl, _⟩ := DataW.trod_bool ht hx
      refine ⟨rfl, fun j u sh h1 h2 => ?_⟩
      cases j with
      | zero => simp at h1 h2; subst h1; subst h2; exact ⟨.sc (.bool b), .sc _ rfl, trivial⟩
      | succ j => simp at h1
    · rename_i ht
      simp at h; subst h
      obtain ⟨b, rfl, _, hb⟩ := DataW.trod_string ht hx
      refine ⟨rfl, fun j u sh h1 h2 => ?_⟩
      cases j with
      | zero => simp at h1 h2; subst h1; subst h2; exact ⟨.sc (.string b), .sc _ rfl, hb⟩
      | succ j => simp at h1
    · rename_i e ht
      split at h
      · rename_i le hle
        split at h
        · rename_i hlen
          simp at h; subst h
          rcases DataW.trod_slice ht hx with ⟨rfl, _⟩ | ⟨a, len, cap, elems, rest, m, _, rfl, _, hb, hlc, hmax, hel, hget, _, _⟩
          · refine ⟨rfl, fun j u sh h1 h2 => ?_⟩
            cases j with
            | zero => simp at h1 h2; subst h1; subst h2; exact ⟨.sl le.length [], .emp _ _ _, rfl, hlen.2, by simp, by simp⟩
            | succ j => simp at h1
          · refine ⟨rfl, fun j u sh h1 h2 => ?_⟩
            cases j with
            | succ j => simp at h1
            | zero =>
              simp at h1 h2; subst h1; subst h2
              by_cases h0 : len = 0
              · subst h0
                exact ⟨.sl le.length [], .emp _ _ _, rfl, hlen.2, by simp, by simp⟩
              have each : ∀ i, i < len → ∀ j, j < le.length → ∃ v y, w.cell? ((a.add (i * P.cellsOf e)).add j) = some v ∧ Pers w (All w) y v ∧ ∀ sh, le[j]? = some sh → shOk n sh y := by
                intro i hi j hj
                have h1 := hget i hi
                rw [List.getElem?_eq_getElem (by omega), Option.bind_eq_some_iff] at h1
                obtain ⟨cs', hcs, hy⟩ := h1
                obtain ⟨g1, g2⟩ := trod_sh hle hy
                have hjc : j < cs'.length := by omega
                have hc := (World.cells?_some hcs).2.2 j (by rw [← hlen.1]; exact hj)
                obtain ⟨y, g3, g4⟩ := g2 j _ _ (List.getElem?_eq_getElem hjc) (List.getElem?_eq_getElem hj)
                refine ⟨cs'[j], y, ?_, g3, fun sh hsh => ?_⟩
                · rw [hc]; exact List.getElem?_eq_getElem hjc
                · rw [List.getElem?_eq_getElem hj] at hsh; simp at hsh; subst hsh; exact g4
              have hspot : a.spot = none := by
                obtain ⟨v, _, hc, _⟩ := each 0 (by omega) 0 hlen.2
                simp [Addr.add] at hc
                unfold World.cell? at hc
                split at hc
                · split at hc
                  · simp at hc
                  · rename_i hs; simpa using hs
                · simp at hc
              have ch : ∀ p : Nat × Nat, ∃ q : Value × DV, p.1 < len → p.2 < le.length → w.cell? ((a.add (p.1 * P.cellsOf e)).add p.2) = some q.1 ∧ Pers w (All w) q.2 q.1 ∧ ∀ sh, le[p.2]? = some sh → shOk n sh q.2 := by
                intro p
                by_cases h1 : p.1 < len
                · by_cases h2 : p.2 < le.length
                  · obtain ⟨v, y, h3⟩ := each p.1 h1 p.2 h2
                    exact ⟨(v, y), fun _ _ => h3⟩
                  · exact ⟨(undef, .sl 0 []), fun _ h => absurd h h2⟩
                · exact ⟨(undef, .sl 0 []), fun h => absurd h h1⟩
              have ⟨f, hf⟩ := Classical.axiomOfChoice ch
              let rows : List (List DV) := (List.range len).map fun i => (List.range le.length).map fun j => (f (i, j)).2
              have hrl : rows.length = len := by simp [rows]
              have hrow : ∀ (i : Nat) (cs : List DV), rows[i]? = some cs → i < len ∧ cs = (List.range le.length).map fun j => (f (i, j)).2 := by
                intro i cs hcs
                simp only [rows, List.getElem?_map, Option.map_eq_some_iff] at hcs
                obtain ⟨i', h1, rfl⟩ := hcs
                have hi : i < len := by
                  have := (List.getElem?_eq_some_iff.1 h1).1
                  simpa using this
                rw [List.getElem?_range hi] at h1
                simp at h1; subst h1
                exact ⟨hi, rfl⟩
              have hcell : ∀ (i j : Nat) (cs : List DV) (d : DV), rows[i]? = some cs → cs[j]? = some d → i < len ∧ j < le.length ∧ d = (f (i, j)).2 := by
                intro i j cs d hcs hd
                obtain ⟨hi, rfl⟩ := hrow i cs hcs
                simp only [List.getElem?_map, Option.map_eq_some_iff] at hd
                obtain ⟨j', h1, rfl⟩ := hd
                have hj : j < le.length := by
                  have := (List.getElem?_eq_some_iff.1 h1).1
                  simpa using this
                rw [List.getElem?_range hj] at h1
                simp at h1; subst h1
                exact ⟨hi, hj, rfl⟩
              have hadd : ∀ i j, (a.add (i * P.cellsOf e)).add j = ⟨a.block, a.off + i * le.length + j, none⟩ := by
                intro i j
                rw [add_spot hspot, add_spot rfl, hlen.1]
              refine ⟨.sl le.length rows, ?_, rfl, hlen.2, by rw [hrl]; omega, fun row hr => ?_⟩
              · have hA : a = ⟨a.block, a.off, none⟩ := by cases a; simp_all
                have hall : All w a.block := by
                  obtain ⟨hc, _⟩ := hf (0, 0) (by show 0 < len; omega) hlen.2
                  rw [hadd] at hc
                  exact World.block_lt_of_cell? w ⟨a.block, _, none⟩ hc
                rw [hA, ← hrl]
                refine .sl le.length rows a.block a.off cap (fun i j => (f (i, j)).1) (by omega) hmax hall (fun i cs hcs => ?_) (fun i j cs d hcs hd => ?_) (fun i j cs d hcs hd => ?_)
                · obtain ⟨_, rfl⟩ := hrow i cs hcs; simp
                · obtain ⟨hi, hj, rfl⟩ := hcell i j cs d hcs hd
                  have := (hf (i, j) hi hj).1
                  rw [hadd] at this
                  exact this
                · obtain ⟨hi, hj, rfl⟩ := hcell i j cs d hcs hd
                  exact (hf (i, j) hi hj).2.1
              · obtain ⟨i, hi⟩ := List.getElem?_of_mem hr
                obtain ⟨hlt, rfl⟩ := hrow i row hi
                refine ⟨by simp, fun j sh y h1 h2 => ?_⟩
                obtain ⟨_, hj, rfl⟩ := hcell i j _ y hi h2
                exact (hf (i, j) hlt hj).2.2 sh h1
        · simp at h
      · simp at h
    · rename_i fs ht
      split at h
      · rename_i l' hl'
        split at h
        · rename_i hlen
          simp at h; subst h
          obtain ⟨xs, m, _, _, hcl, _, hget⟩ := DataW.trod_struct ht hx
          refine ⟨by rw [hcl, hlen], fun j u sh h1 h2 => ?_⟩
          obtain ⟨i, f, lf, j', e1, e2, e3, e4, e5⟩ := structSh_get hl' j sh h2
          have hf := hget i f (by simpa using e1)
          have hxs : i < xs.length := by
            cases hxi : xs[i]? with
            | none =>
              have := (List.getElem?_eq_some_iff.1 e1).1
              rw [List.getElem?_eq_none_iff] at hxi
              have h3 : xs.length = fs.size := by assumption
              simp at this
              omega
            | some _ => exact (List.getElem?_eq_some_iff.1 hxi).1
          rw [List.getElem?_eq_getElem hxs] at hf
          obtain ⟨g1, g2⟩ := trod_sh e2 hf
          obtain ⟨y, g3, g4⟩ := g2 j' u sh (by
            rw [List.getElem?_take]
            have := (List.getElem?_eq_some_iff.1 e4).1
            rw [if_pos (by omega), List.getElem?_drop]
            rw [show f.offset + j' = j by omega]; exact h1) e4
          refine ⟨y, g3, ?_⟩
          cases n with
          | zero => simp [cellsSh] at e2
          | succ n => exact shOk_mono g4
        · simp at h
      · simp at h
    · simp at h
end
end Hearth

/- The abstract machine: states that say less (2): objects. -/
namespace Hearth
open Go
def obTab (V : Nat) : List (Nat × Ob) → Nat → Ob
  | [], id => if id = alien then ⟨0, 0, .ext⟩ else ⟨V, 0, .dead⟩
  | (i, o) :: l, id => if id = i then o else obTab V l id
def VB (f : Nat → Ob) (V : Nat) : Prop := ∀ id, (f id).ver ≤ V
theorem VB.mono {f : Nat → Ob} {V V' : Nat} (h : VB f V) (h' : V ≤ V') : VB f V' := fun id => Nat.le_trans (h id) h'
theorem VB.upd {f : Nat → Ob} {V i : Nat} {o : Ob} (h : VB f V) (ho : o.ver ≤ V) : VB (Hearth.upd f i o) V := by
  intro id
  unfold Hearth.upd
  split
  · exact ho
  · exact h id
theorem VB.set {s : St} {V i : Nat} {o : Ob} (h : VB s.ob V) (ho : o.ver ≤ V) : VB (s.setOb i o).ob V := VB.upd h ho
theorem VB.kill {s : St} {V : Nat} {ids : List Nat} (h : VB s.ob V) : VB (s.kill ids).ob (V + 1) := by
  intro id
  show (if id ∈ ids then _ else _ : Ob).ver ≤ _
  split
  · exact Nat.succ_le_succ (h id)
  · exact Nat.le_succ_of_le (h id)
theorem VB.after {s : St} {V d : Nat} {ra : List RA} {bs : List (Nat × Nat × Bool)} {os : Outs} (h : VB s.ob V) : VB (s.after d ra bs os).ob (V + 1) := by
  intro id
  unfold St.after
  split
  · exact Nat.le_succ_of_le (h id)
  · have := h id
    simp only
    split
    · simp only; omega
    · split
      · simp only; omega
      · split <;> (simp only; omega)
      · omega
theorem VB.tab {V : Nat} : ∀ {l : List (Nat × Ob)}, (∀ e ∈ l, e.2.ver ≤ V) → VB (obTab V l) V
  | [], _, id => by
    simp only [obTab]
    split
    · exact Nat.zero_le _
    · exact Nat.le_refl _
  | (i, o) :: l, h, id => by
    simp only [obTab]
    split
    · exact h (i, o) (List.mem_cons_self ..)
    · exact VB.tab (fun e he => h e (List.mem_cons_of_mem _ he)) id
theorem VB.init (gas : List GA) : VB (St.init gas).ob 0 := fun _ => Nat.le_refl _
def chkO (s : St) : List (Nat × Ob) → Prop
  | [] => True
  | (i, o) :: l => s.ob i = o ∧ chkO s l
theorem Sub.canon {s : St} {V V' : Nat} {l : List (Nat × AV)} {lo : List (Nat × Ob)} (hv : VB s.ob V) (hV : V < V') (ha : s.ob alien = ⟨0, 0, .ext⟩) (hc : chk s l) (ho : chkO s lo) : Sub s ⟨tabSl l, obTab V' lo, []⟩ := by
  refine Sub.trans (t := ⟨s.sl, obTab V' lo, []⟩) (Sub.drop rfl fun id => ?_) (Sub.sl (s := ⟨s.sl, obTab V' lo, []⟩) rfl (tab_wk (s := s) hc))
  have : ∀ {lo : List (Nat × Ob)}, chkO s lo → obTab V' lo id = s.ob id ∨ (id ≠ alien ∧ (obTab V' lo id).k = .dead ∧ (s.ob id).ver < (obTab V' lo id).ver) := by
    intro lo
    induction lo with
    | nil =>
      intro _
      simp only [obTab]
      split
      · rename_i h; subst h; exact .inl ha.symm
      · rename_i h; exact .inr ⟨h, rfl, Nat.lt_of_le_of_lt (hv id) hV⟩
    | cons e lo ih =>
      intro h
      simp only [obTab]
      split
      · rename_i h'; subst h'; exact .inl h.1.symm
      · exact ih h.2
  exact this ho
theorem Sub.nilBox {s : St} {id id2 j sz ver ev v2 e2 : Nat} {k2 : OK} {cs : List AC} (hb : s.ob id = ⟨ver, ev, .box cs⟩) (h2 : s.ob id2 = ⟨v2, e2, k2⟩) (hj : cs[j]? = some (.nil sz)) (hne : id2 ≠ id) (hal : id2 ≠ alien) :
    Sub s ⟨s.sl, upd (upd s.ob id2 ⟨v2 + 1, 0, .arr true (.sl sz [])⟩) id ⟨ver, ev, .box (cs.set j (.arr id2 (v2 + 1)))⟩, []⟩ := by
  rintro P N w0 own0 hdr0 a w ⟨own, hdr, r⟩
  have h := (r.hold []).make (id := id2) (ids := []) (k := .arr true (.sl sz [])) (F := fun _ => False) (v := .slice none 0 0) (w' := w) ⟨hal, by simp⟩ (by simp) (by simp) (by simp) (Ext.refl _ _) (fun _ h => h.elim) (fun rc => by
    unfold RO
    rw [ob_new (by simp)]
    exact ⟨rfl, .inl ⟨rfl, by simp [hdrTo]⟩⟩)
  rw [St.kill_nil] at h
  obtain ⟨r1, rc1⟩ := h
  have hv2 : (s.ob id2).ver = v2 := by rw [h2]
  simp only [St.newOb, St.setOb, hv2] at r1 rc1
  generalize ownTo own id2 [] (fun _ => False) = own1 at *
  have hh : hdrTo hdr id2 [] (.slice none 0 0) id2 = .slice none 0 0 := by simp [hdrTo]
  generalize hdrTo hdr id2 [] (.slice none 0 0) = hdr1 at *
  have hob : (upd s.ob id2 ⟨v2 + 1, 0, .arr true (.sl sz [])⟩) id = ⟨ver, ev, .box cs⟩ := by rw [upd_ne _ _ _ _ (Ne.symm hne)]; exact hb
  have hob2 : (upd s.ob id2 ⟨v2 + 1, 0, OK.arr true (.sl sz [])⟩) id2 = ⟨v2 + 1, 0, .arr true (.sl sz [])⟩ := upd_same _ _ _
  generalize (upd s.ob id2 ⟨v2 + 1, 0, OK.arr true (.sl sz [])⟩) = ob1 at *
  -- the variable's cells are named anew
  have rc2 : ∀ c u, RC P w own1 hdr1 ob1 c u → RC P w own1 hdr1 (upd ob1 id ⟨ver, ev, .box (cs.set j (.arr id2 (v2 + 1)))⟩) c u := by
    have key : ∀ i, ((upd ob1 id ⟨ver, ev, .box (cs.set j (.arr id2 (v2 + 1)))⟩) i).ver = (ob1 i).ver ∧ ((upd ob1 id ⟨ver, ev, .box (cs.set j (.arr id2 (v2 + 1)))⟩) i).ev = (ob1 i).ev ∧ ((upd ob1 id ⟨ver, ev, .box (cs.set j (.arr id2 (v2 + 1)))⟩) i).k.dv = (ob1 i).k.dv := by
      intro i
      unfold upd
      split
      · rename_i e; subst e; rw [hob]; exact ⟨rfl, rfl, rfl⟩
      · exact ⟨rfl, rfl, rfl⟩
    intro c u hc
    cases c <;> first
      | exact hc
      | (simp only [RC, (key _).1, (key _).2.1, (key _).2.2] at hc ⊢; exact hc)
  refine ⟨own1, hdr1, r1.n, r1.defers, fun t => ?_, fun i => ?_, ?_, ?_, r1.dis, r1.lt, r1.ext, fun i hi => r1.zero i ?_, r1.new, by simp⟩
  · have := r1.tmps t
    have hs : ∀ {x : AV} {u : Value}, RS P w own1 hdr1 ob1 x u → RS P w own1 hdr1 (upd ob1 id ⟨ver, ev, .box (cs.set j (.arr id2 (v2 + 1)))⟩) x u := by
      intro x u hx
      cases x with
      | c c => exact rc2 c u hx
      | g xs => obtain ⟨vs, e1, e2, e3⟩ := hx; exact ⟨vs, e1, e2, fun k x u a b => rc2 x u (e3 k x u a b)⟩
      | t xs =>
        obtain ⟨vs, e1, e2, e3⟩ := hx
        refine ⟨vs, e1, e2, fun k x u a b => ?_⟩
        have := e3 k x u a b
        cases x with
        | c c => exact rc2 c u this
        | g xs => obtain ⟨vs, f1, f2, f3⟩ := this; exact ⟨vs, f1, f2, fun k x u a b => rc2 x u (f3 k x u a b)⟩
        | t xs => exact this
    exact hs this
  · have ho := r1.objs i
    by_cases hi : i = id
    · subst hi
      obtain ⟨b, vs, t, g1, g2, g3, g4, g5⟩ := r1.boxAt (id := i) (cs := cs) (by show (ob1 i).k = _; rw [hob])
      unfold RO
      simp only [upd_same]
      refine ⟨b, vs, t, g1, g2, g3, by simpa using g4, fun k c u h3 h4 => ?_⟩
      rw [List.getElem?_set] at h3
      split at h3
      · rename_i e
        subst e
        split at h3
        · simp at h3; subst h3
          refine rc2 _ _ ?_
          have := g5 j _ u hj h4
          rw [show u = .slice none 0 0 from this]
          show _ ≤ (ob1 id2).ver ∧ (_ = (ob1 id2).ver → _)
          rw [hob2]
          exact ⟨Nat.le_refl _, fun _ => hh.symm⟩
        · simp at h3
      · exact rc2 _ _ (g5 k c u h3 h4)
    · unfold RO at ho ⊢
      simp only [upd_ne _ _ _ _ hi]
      split at ho
      · rename_i hk; simp only [show (ob1 i).k = _ from hk]; exact ho
      · rename_i hk; simp only [show (ob1 i).k = _ from hk]; exact ho
      · rename_i cs' hk
        simp only [show (ob1 i).k = _ from hk]
        obtain ⟨b, vs, t, g1, g2, g3, g4, g5⟩ := ho
        exact ⟨b, vs, t, g1, g2, g3, g4, fun k c u a b => rc2 c u (g5 k c u a b)⟩
      · rename_i hk; simp only [show (ob1 i).k = _ from hk]; exact ho
      · rename_i hk; simp only [show (ob1 i).k = _ from hk]; exact ho
  · have hne' : alien ≠ id := fun e => by
      have := r1.al
      rw [e] at this
      have h3 : (ob1 id).k = .ext := this
      rw [hob] at h3; cases h3
    show (upd ob1 id _ alien).k = .ext
    rw [upd_ne _ _ _ _ hne']; exact r1.al
  · have hne' : alien ≠ id := fun e => by
      have := r1.al
      rw [e] at this
      have h3 : (ob1 id).k = .ext := this
      rw [hob] at h3; cases h3
    show (upd ob1 id _ alien).ver = 0
    rw [upd_ne _ _ _ _ hne']; exact r1.alv
  · have : (upd ob1 id ⟨ver, ev, .box (cs.set j (.arr id2 (v2 + 1)))⟩ i).ver = 0 := hi
    unfold upd at this
    split at this
    · rename_i e; rw [e]; show (ob1 id).ver = 0; rw [hob]; exact this
    · exact this
end Hearth

/- The abstract machine: a state named anew (versions as at a loop's first round). -/
namespace Hearth
open Go
def kept (ob : Nat → Ob) (id : Nat) : Bool :=
  match (ob id).k with
  | .dead => false
  | _ => true
section
variable (ob ob' : Nat → Ob)
def cw (c : AC) : AC → Prop
  | .any => True
  | .un => c = .un
  | .d x => c = .d x ∨ ∃ sz, c = .nil sz ∧ x = .sl sz []
  | .nil sz => c = .nil sz
  | .arr id ver => c = .arr id (ob id).ver ∧ (ob' id).ver = ver ∧ kept ob' id = true
  | .ptr id ver off => c = .ptr id (ob id).ver off ∧ (ob' id).ver = ver ∧ kept ob' id = true
  | .ept id ver i off => c = .ept id (ob id).ver i off ∧ (ob' id).ver = ver ∧ kept ob' id = true ∧ (ob' id).k.dv.esz = (ob id).k.dv.esz
  | .dpt ds => c = .dpt ds
  | .cpt ds => c = .cpt ds
  | .sub _ _ _ _ _ => False
  | .spt _ _ _ _ _ _ _ => False
  | .fn f first caps => c = .fn f first (caps.map fun e => (e.1, (ob e.1).ver)) ∧ (caps.all fun e => (Nat.beq (ob' e.1).ver e.2 && kept ob' e.1)) = true
  | .fv p C => c = .fv p C
def cwL : List AC → List AC → Prop
  | [], [] => True
  | c :: cs, d :: ds => cw ob ob' c d ∧ cwL cs ds
  | _, _ => False
def cwV (v : AV) : AV → Prop
  | .c d => ∃ c, v = .c c ∧ cw ob ob' c d
  | .g ds => ∃ cs, v = .g cs ∧ cwL ob ob' cs ds
  | .t _ => False
def arrW : Bool → OK → DV → Prop
  | true, k, x => k = .arr true x
  | false, k, x => ∃ dp, k = .arr dp x
theorem arrW_spec : ∀ {dp : Bool} {k : OK} {x : DV}, arrW dp k x → ∃ dp0, k = .arr dp0 x ∧ (dp = true → dp0 = true)
  | true, _, _, h => ⟨true, h, fun h => h⟩
  | false, _, _, ⟨dp, h⟩ => ⟨dp, h, nofun⟩
def okW (o o' : Ob) : Prop :=
  (!(Nat.beq o'.ver 0) || Nat.beq o.ver 0) = true ∧
  match o'.k with
  | .dead => False
  | .ext => False
  | .box cs => ∃ cs0, o.k = .box cs0 ∧ cwL ob ob' cs0 cs
  | .arr dp x => arrW dp o.k x
  | .frz x => o.k = .frz x
end
def chkV (s : St) (ob' : Nat → Ob) : List (Nat × AV) → Prop
  | [] => True
  | (i, v) :: l => cwV s.ob ob' (s.sl i) v ∧ chkV s ob' l
def chkW (s : St) (ob' : Nat → Ob) : List (Nat × Ob) → Prop
  | [] => True
  | (i, o) :: l => (Nat.beq i alien = false ∧ okW s.ob ob' (s.ob i) o) ∧ chkW s ob' l
theorem cwL_get {ob ob' : Nat → Ob} : ∀ {cs ds : List AC}, cwL ob ob' cs ds → cs.length = ds.length ∧ ∀ (k : Nat) (d : AC), ds[k]? = some d → ∃ c, cs[k]? = some c ∧ cw ob ob' c d
  | [], [], _ => by simp
  | c :: cs, d :: ds, h => by
    obtain ⟨h1, h2⟩ := cwL_get h.2
    refine ⟨by simp [h1], fun k e hk => ?_⟩
    cases k with
    | zero => simp at hk; subst hk; exact ⟨c, rfl, h.1⟩
    | succ k => simp at hk; simpa using h2 k e hk
  | [], _ :: _, h => h.elim
  | _ :: _, [], h => h.elim
section
variable {P : Program} {w : World} {own : Nat → Nat → Prop} {hdr : Nat → Value} {ob ob' : Nat → Ob}
def ownK (own : Nat → Nat → Prop) (ob' : Nat → Ob) : Nat → Nat → Prop := fun id b => kept ob' id = true ∧ own id b
def hdrK (hdr : Nat → Value) (ob' : Nat → Ob) : Nat → Value := fun id => if kept ob' id = true then hdr id else undef
theorem Free.keep {b : Nat} (h : Free w own b) : Free w (ownK own ob') b := ⟨h.1, fun id ho => h.2 id ho.2⟩
theorem FreeF.keep {b : Nat} (h : FreeF w own b) : FreeF w (ownK own ob') b := ⟨h.1, fun id ho => h.2 id ho.2⟩
theorem DAr.keep {a : DA} {v : Value} (h : DAr w (Free w own) a v) : DAr w (Free w (ownK own ob')) a v := by
  cases a with
  | one x => exact Pers.mono' (fun _ hb => hb.keep) h
  | agg xs =>
    obtain ⟨vs, h1, h2, h3⟩ := h
    exact ⟨vs, h1, h2, fun k x u a b => Pers.mono' (fun _ hb => hb.keep) (h3 k x u a b)⟩
theorem RC.keep {c d : AC} {u : Value} (hw : cw ob ob' c d) (h : RC P w own hdr ob c u) : RC P w (ownK own ob') (hdrK hdr ob') ob' d u := by
  cases d with
  | any => trivial
  | un => rw [show c = .un from hw] at h; exact h
  | d x =>
    rcases hw with rfl | ⟨sz, rfl, rfl⟩
    · exact Pers.mono' (fun _ hb => hb.keep) h
    · rw [show u = .slice none 0 0 from h]
      exact .emp _ _ _
  | nil sz => rw [show c = .nil sz from hw] at h; exact h
  | arr id ver =>
    obtain ⟨rfl, rfl, hk⟩ := hw
    refine ⟨Nat.le_refl _, fun _ => ?_⟩
    rw [hdrK, if_pos hk]
    exact h.2 rfl
  | ptr id ver off =>
    obtain ⟨rfl, rfl, hk⟩ := hw
    refine ⟨Nat.le_refl _, fun _ => ?_⟩
    rw [hdrK, if_pos hk]
    exact h.2 rfl
  | ept id ver i off =>
    obtain ⟨rfl, rfl, hk, he⟩ := hw
    refine ⟨Nat.le_refl _, fun _ => ?_⟩
    rw [hdrK, if_pos hk, he]
    exact h.2 rfl
  | dpt ds =>
    rw [show c = .dpt ds from hw] at h
    obtain ⟨b, off, h1, h2, h3⟩ := h
    refine ⟨b, off, h1, h2.keep, fun j d hd => ?_⟩
    obtain ⟨u, h4, h5⟩ := h3 j d hd
    exact ⟨u, h4, Pers.mono' (fun _ hb => hb.keep) h5⟩
  | cpt ds =>
    rw [show c = .cpt ds from hw] at h
    obtain ⟨b, off, h1, h2, h3⟩ := h
    refine ⟨b, off, h1, h2.keep, fun j d hd => ?_⟩
    obtain ⟨u, h4, h5⟩ := h3 j d hd
    refine ⟨u, h4, ?_⟩
    cases d with
    | d x => exact Pers.mono' (fun _ hb => hb.keep) h5
    | fv p C =>
      refine FVal.mono (fun b hb => ⟨rfl, ?_⟩) (Nat.le_refl _) h5
      split at hb
      · rename_i e; rw [if_pos e]; exact hb.elim
      · rename_i e; rw [if_neg e]; exact hb.keep
  | sub _ _ _ _ _ => exact hw.elim
  | spt _ _ _ _ _ _ _ => exact hw.elim
  | fn f first caps =>
    obtain ⟨rfl, hc⟩ := hw
    obtain ⟨fs, vs, h1, h2, h3, h4⟩ := h
    refine ⟨fs, vs, h1, ⟨h2.1, fun t a v x y => (h2.2 t a v x y).keep⟩, by simpa using h3, fun k id ver u hk hu => ?_⟩
    have := List.all_eq_true.1 hc _ (List.mem_of_getElem? hk)
    simp only [Bool.and_eq_true, Nat.beq_eq] at this
    refine ⟨Nat.le_of_eq this.1.symm, fun _ => ?_⟩
    rw [hdrK, if_pos this.2]
    exact (h4 k id (ob id).ver u (by simp [hk]) hu).2 rfl
  | fv p C =>
    rw [show c = .fv p C from hw] at h
    refine FVal.mono (fun b hb => ⟨rfl, ?_⟩) (Nat.le_refl _) h
    split at hb
    · rename_i e; rw [if_pos e]; exact hb.elim
    · rename_i e; rw [if_neg e]; exact hb.keep
theorem RS.keep {v d : AV} {u : Value} (hw : cwV ob ob' v d) (h : RS P w own hdr ob v u) : RS P w (ownK own ob') (hdrK hdr ob') ob' d u := by
  cases d with
  | c d => obtain ⟨c, rfl, hw⟩ := hw; exact RC.keep hw h
  | g ds =>
    obtain ⟨cs, rfl, hw⟩ := hw
    obtain ⟨vs, h1, h2, h3⟩ := h
    have hl := cwL_get hw
    refine ⟨vs, h1, h2.trans hl.1, fun k d u hk hu => ?_⟩
    obtain ⟨c, hc, hcd⟩ := hl.2 k d hk
    exact RC.keep hcd (h3 k c u hc hu)
  | t _ => exact hw.elim
end
theorem tabSl_keep {s : St} {ob' : Nat → Ob} : ∀ {l : List (Nat × AV)}, chkV s ob' l → ∀ j, tabSl l j = .c .any ∨ cwV s.ob ob' (s.sl j) (tabSl l j)
  | [], _, j => .inl rfl
  | (i, v) :: l, h, j => by
    simp only [tabSl]
    split
    · rename_i e; rw [e]; exact .inr h.1
    · exact tabSl_keep h.2 j
theorem obTab_keep {s : St} {ob' : Nat → Ob} {V : Nat} {id : Nat} : ∀ {lo : List (Nat × Ob)}, chkW s ob' lo →
    (id = alien ∧ obTab V lo id = ⟨0, 0, .ext⟩) ∨ (id ≠ alien ∧ obTab V lo id = ⟨V, 0, .dead⟩) ∨ (id ≠ alien ∧ okW s.ob ob' (s.ob id) (obTab V lo id))
  | [], _ => by
    simp only [obTab]
    split
    · rename_i h; exact .inl ⟨h, rfl⟩
    · rename_i h; exact .inr (.inl ⟨h, rfl⟩)
  | (i, o) :: l, h => by
    simp only [obTab]
    split
    · rename_i e; subst e; exact .inr (.inr ⟨Nat.ne_of_beq_eq_false h.1.1, h.1.2⟩)
    · exact obTab_keep h.2
theorem Sub.norm {s : St} {l : List (Nat × AV)} {lo : List (Nat × Ob)} (hc : chkV s (obTab 1 lo) l) (ho : chkW s (obTab 1 lo) lo) : Sub s ⟨tabSl l, obTab 1 lo, []⟩ := by
  rintro P N w0 own0 hdr0 a w ⟨own, hdr, r⟩
  refine ⟨ownK own (obTab 1 lo), hdrK hdr (obTab 1 lo), r.n, r.defers, fun j => ?_, fun id => ?_, ?_, ?_, fun i j b hi hj => r.dis i j b hi.2 hj.2, fun i b hb => r.lt i b hb.2, r.ext, fun id hz => ?_, fun i b hi hb => r.new i b hi hb.2, by simp⟩
  · rcases tabSl_keep hc j with h | h
    · simp only [h]; trivial
    · exact RS.keep h (r.tmps j)
  · have ht := obTab_keep (V := 1) (id := id) ho
    have hk : ∀ {k : OK}, (obTab 1 lo id).k = k → kept (obTab 1 lo) id = (match k with | .dead => false | _ => true) := fun {k} e => by unfold kept; rw [e]
    rcases ht with ⟨rfl, h⟩ | ⟨_, h⟩ | ⟨hne, h1, h2⟩
    · have := r.objs alien
      have hal := r.al
      unfold RO at this ⊢
      simp only [h, hal] at this ⊢
      have hkk : kept (obTab 1 lo) alien = true := by unfold kept; rw [h]
      rw [hdrK, if_pos hkk]
      exact this
    · unfold RO
      simp only [h]
      have : kept (obTab 1 lo) id = false := by unfold kept; rw [h]
      exact ⟨by rw [hdrK, if_neg (by simp [this])], fun b hb => by simp [ownK, this] at hb⟩
    · have hro := r.objs id
      split at h2
      · exact h2.elim
      · exact h2.elim
      · rename_i cs e
        have hkk : kept (obTab 1 lo) id = true := hk e
        obtain ⟨cs0, h3, h4⟩ := h2
        unfold RO at hro ⊢
        simp only [h3, e] at hro ⊢
        obtain ⟨b, vs, t, a1, a2, a3, a4, a5⟩ := hro
        have hl := cwL_get h4
        refine ⟨b, vs, t, by rw [hdrK, if_pos hkk]; exact a1, fun x => ?_, a3, a4.trans hl.1, fun k d u hd hu => ?_⟩
        · simp only [ownK, hkk, true_and]; exact a2 x
        · obtain ⟨c, hc1, hc2⟩ := hl.2 k d hd
          exact RC.keep hc2 (a5 k c u hc1 hu)
      · rename_i dp x e
        have hkk : kept (obTab 1 lo) id = true := hk e
        unfold RO at hro ⊢
        obtain ⟨dp0, h3, hd⟩ := arrW_spec h2
        simp only [h3, e] at hro ⊢
        rw [hdrK, if_pos hkk]
        exact ⟨hro.1, hro.2.mono hd (fun _ hb => ⟨rfl, hb.keep⟩) fun b hb => ⟨rfl, hkk, hb⟩⟩
      · rename_i x e
        have hkk : kept (obTab 1 lo) id = true := hk e
        unfold RO at hro ⊢
        simp only [h2, e] at hro ⊢
        rw [hdrK, if_pos hkk]
        exact ⟨hro.1, fun b hb => hro.2.1 b hb.2, Pers.mono' (fun _ hb => hb.keep) hro.2.2⟩
  · rcases obTab_keep (V := 1) (id := alien) ho with ⟨_, h⟩ | ⟨h, _⟩ | ⟨h, _⟩
    · show (obTab 1 lo alien).k = _; rw [h]
    · exact absurd rfl h
    · exact absurd rfl h
  · rcases obTab_keep (V := 1) (id := alien) ho with ⟨_, h⟩ | ⟨h, _⟩ | ⟨h, _⟩
    · show (obTab 1 lo alien).ver = _; rw [h]
    · exact absurd rfl h
    · exact absurd rfl h
  · have hz' : (obTab 1 lo id).ver = 0 := hz
    have key : (s.ob id).ver = 0 ∧ kept (obTab 1 lo) id = true := by
      rcases obTab_keep (V := 1) (id := id) ho with ⟨rfl, h⟩ | ⟨_, h⟩ | ⟨_, h1, h2⟩
      · exact ⟨r.alv, by unfold kept; rw [h]⟩
      · rw [h] at hz'; exact absurd hz' (by simp)
      · rw [hz'] at h1
        refine ⟨by simpa using h1, ?_⟩
        unfold kept
        split
        · rename_i e; rw [e] at h2; exact h2.elim
        · rfl
    have := r.zero id key.1
    exact ⟨by rw [hdrK, if_pos key.2]; exact this.1, fun b => by simp only [ownK, key.2, true_and]; exact this.2 b⟩
end Hearth

/- Bytes and lists of bytes: what is said of them besides. -/
namespace Hearth
open Go
theorem encB_zeros (n : Nat) : DV.sl 1 (List.replicate n [.sc (.int .u8 0)]) = encB (List.replicate n 0) := by simp [encB]
def markss : List (List UInt8) → Int → List (List UInt8)
  | [], _ => []
  | b :: l, k => marks b.length k :: markss l (k + b.length)
theorem markss_len : ∀ (l : List (List UInt8)) (k : Int), (markss l k).length = l.length
  | [], _ => rfl
  | b :: l, k => by simp [markss, markss_len l]
theorem markss_append : ∀ (l : List (List UInt8)) (b : List UInt8) (k : Int), markss (l ++ [b]) k = markss l k ++ [marks b.length (k + l.flatten.length)]
  | [], b, k => by simp [markss]
  | c :: l, b, k => by
    simp only [List.cons_append, markss, markss_append l b, List.flatten_cons, List.length_append]
    rw [show k + (c.length : Int) + (l.flatten.length : Int) = k + ((c.length + l.flatten.length : Nat) : Int) by omega]
def idxF (g : DV → Bool) (l : List DV) : Int := match l.findIdx? g with | some i => i | none => -1
def okLetter (b : UInt8) : Bool := (97 ≤ b.toNat && b.toNat ≤ 122) || (48 ≤ b.toNat && b.toNat ≤ 57) || b.toNat == 45
def szOut (left : Int) (cost : Nat) : Int := if left - cost < 0 then -1 else left - cost
theorem take_flat {α : Type} (a : List (List α)) (i : Nat) (h : i < a.length) : (a.take (i + 1)).flatten.length = (a.take i).flatten.length + a[i].length := by
  rw [← List.take_append_getElem h, List.flatten_append, List.length_append]; simp only [List.flatten_cons, List.flatten_nil, List.append_nil]
theorem flat_le {α : Type} (a : List (List α)) (i : Nat) : (a.take i).flatten.length ≤ a.flatten.length := by
  have := congrArg (fun l => (List.flatten l).length) (List.take_append_drop i a)
  simp only [List.flatten_append, List.length_append] at this
  omega
theorem encBB_zeros (n : Nat) : DV.sl 1 (List.replicate n [.sl 1 []]) = encBB (List.replicate n []) := by simp [encBB, encB]
theorem app_nil_encB (b : List UInt8) : (DV.sl 1 []).app (encB b) = encB b := by simp [DV.app, encB, DV.rows, DV.esz]
theorem app_encBB (l m : List (List UInt8)) : (encBB l).app (encBB m) = encBB (l ++ m) := by simp [DV.app, encBB, DV.rows, DV.esz]
theorem marks_get (n : Nat) (k : Int) (i : Nat) (h : i < (marks n k).length) : (((marks n k)[i]).toNat : Int) = IntKind.u8.wrap (k + i) := by
  rw [← u8_toNat]
  simp [marks]
theorem markss_get : ∀ (l : List (List UInt8)) (k : Int) (i : Nat) (h : i < (markss l k).length) (h' : i < l.length), (markss l k)[i] = marks l[i].length (k + (l.take i).flatten.length)
  | b :: l, k, 0, _, _ => by simp [markss]
  | b :: l, k, i + 1, h, h' => by
    simp only [markss, List.getElem_cons_succ, List.take_succ_cons, List.flatten_cons, List.length_append]
    rw [markss_get l _ i (by simpa [markss] using h) (by simpa using h')]
    congr 1
    omega
def labelOk (b : List UInt8) : Bool := decide (1 ≤ b.length) && decide (b.length ≤ 15) && b.all okLetter
theorem okLetter_iff (b : UInt8) : okLetter b = true ↔ (97 ≤ b.toNat ∧ b.toNat ≤ 122) ∨ (48 ≤ b.toNat ∧ b.toNat ≤ 57) ∨ b.toNat = 45 := by
  simp [okLetter, or_assoc]
theorem labelOk_no {b : List UInt8} {i : Nat} (hi : i < b.length) (h : ¬ okLetter b[i] = true) : labelOk b = false := by
  have : ¬ (b.all okLetter = true) := fun e => h (List.all_eq_true.1 e _ (List.getElem_mem hi))
  simp [labelOk, this]
theorem labelOk_step {b : List UInt8} {i : Nat} (hi : i < b.length) (h : (b.take i).all okLetter = true) (h2 : okLetter b[i] = true) : (b.take (i + 1)).all okLetter = true := by
  rw [← List.take_append_getElem hi, List.all_append, h]
  simp [h2]
def nameOk (a : List (List UInt8)) : Bool := decide (a.length ≤ 6) && a.all labelOk
theorem all_no {α : Type} {f : α → Bool} {l : List α} {i : Nat} (hi : i < l.length) (h : f l[i] = false) : l.all f = false := by
  cases e : l.all f with
  | false => rfl
  | true => rw [List.all_eq_true.1 e _ (List.getElem_mem hi)] at h; cases h
theorem all_step {α : Type} {f : α → Bool} {l : List α} {i : Nat} (hi : i < l.length) (h : (l.take i).all f = true) (h2 : f l[i] = true) : (l.take (i + 1)).all f = true := by
  rw [← List.take_append_getElem hi, List.all_append, h]
  simp [h2]
def dec8 : DV → UInt8
  | .sc (.int _ n) => UInt8.ofNat n.toNat
  | _ => 0
theorem dec8_enc (b : UInt8) : dec8 (.sc (.int .u8 b.toNat)) = b := by simp [dec8]
def decB (x : DV) : List UInt8 := x.rows.map fun r => dec8 (r.getD 0 (.sl 0 []))
theorem decB_enc (b : List UInt8) : decB (encB b) = b := by
  unfold decB encB DV.rows
  rw [List.map_map]
  refine Eq.trans (List.map_congr_left fun x _ => ?_) (List.map_id b)
  exact dec8_enc x
def is8 (x : DV) : Prop := ∃ b : UInt8, x = .sc (.int .u8 b.toNat)
theorem all_dec8 (f : UInt8 → Bool) (l : List UInt8) : (l.map fun b : UInt8 => DV.sc (.int .u8 b.toNat)).all (fun x => f (dec8 x)) = l.all f := by
  rw [List.all_map]
  congr 1
  funext b
  simp [dec8_enc]
theorem all_decB (f : List UInt8 → Bool) (l : List (List UInt8)) : (l.map encB).all (fun x => f (decB x)) = l.all f := by
  rw [List.all_map]
  congr 1
  funext b
  simp [decB_enc]
theorem mem_flat_le {α : Type} {l : List (List α)} {b : List α} (h : b ∈ l) : b.length ≤ l.flatten.length := by
  induction l with
  | nil => cases h
  | cons c l ih =>
    simp only [List.flatten_cons, List.length_append]
    rcases List.mem_cons.1 h with rfl | h
    · omega
    · have := ih h; omega
theorem drop_flat_le {α : Type} (l : List (List α)) (n : Nat) : (l.drop n).flatten.length ≤ l.flatten.length := by
  have := congrArg (fun l => (List.flatten l).length) (List.take_append_drop n l)
  simp only [List.flatten_append, List.length_append] at this
  omega
theorem szOut_ok {n : Int} {c : Nat} (h : ¬ szOut n c < 0) : (c : Int) ≤ n := by
  unfold szOut at h
  split at h <;> omega
structure SmallBB (a : List (List UInt8)) : Prop where
  len : a.length ≤ 4194304
  mem : ∀ b ∈ a, b.length ≤ 4194304
  flat : a.flatten.length ≤ 4194304
theorem SmallBB.of {a : List (List UInt8)} (h : a.length + a.flatten.length ≤ 1048576) : SmallBB a :=
  ⟨by omega, fun b hb => by have := mem_flat_le hb; omega, by omega⟩
theorem SmallBB.drop {a : List (List UInt8)} (h : SmallBB a) (n : Nat) : SmallBB (a.drop n) :=
  ⟨by have := h.len; simp; omega, fun b hb => h.mem b (List.mem_of_mem_drop hb), Nat.le_trans (drop_flat_le a n) h.flat⟩
theorem SmallBB.cons {a : List (List UInt8)} {l : List UInt8} (h1 : a.length + 1 ≤ 4194304) (h2 : l.length ≤ 4194304) (h3 : l.length + a.flatten.length ≤ 4194304) (h : SmallBB a) : SmallBB (l :: a) :=
  ⟨by simpa using h1, fun b hb => (List.mem_cons.1 hb).elim (fun e => e ▸ h2) (h.mem b), by simpa using h3⟩
theorem SmallBB.nil : SmallBB [] := ⟨by simp, by simp, by simp⟩
end Hearth

/- The abstract machine: rules for lists that are told by their elements. -/
namespace Hearth
open Go
def notMe (id : Nat) : AC → Bool
  | .arr j _ => !(j == id)
  | _ => true
section
variable {P : Program} {k : List It} {Q : Ex → St → Prop} {s : St} {r : T} {d : Option Nat} {q : Bool} {oi : Nat} {tags : List Nat}
theorem kCallD {e f : Nat} {args : List X} {gas : List GA} {ra : List RA} {v : AV} (hok : FnOK P f gas (fun ra' _ => ra' = ra)) (hm : matchGs P s (args.map s.ev) gas) (hb : callB s e (args.map s.ev) gas true = true)
    (hc : (ra.all RA.isD && (bindGs 0 (args.map s.ev) gas).isEmpty) = true) (hc2 : ra.all RA.clean = true) (hl : decide (ra.length ≤ 64) = true) (hv : resV s e ra = v)
    (h : kont P (.t r tags :: k) Q .normal (s.put d v)) : kont P (.t (.op oi [] d none q (.call e f args) r) tags :: k) Q .normal s :=
  kCall1 true hok hm hb (by simpa using hc2) hl (fun os => by rw [St.after, if_pos hc, hv]; exact h)
theorem after_congr {e : Nat} {ra : List RA} {p id : Nat} {os os' : Outs} {v ev : Nat} {dp : Bool} {x : DV} (ho : s.ob id = ⟨v, ev, .arr dp x⟩) (h : os.a p = os'.a p) : s.after e ra [(p, id, false)] os = s.after e ra [(p, id, false)] os' := by
  unfold St.after
  split
  · rfl
  · refine congrArg (fun o => (⟨s.sl, o, s.hold⟩ : St)) (funext fun id' => ?_)
    split
    · rfl
    · by_cases e : id = id'
      · subst e
        simp only [List.find?_cons, beq_self_eq_true, ho, h]
      · have : (id == id') = false := by simpa using e
        simp only [List.find?_cons, this, List.find?_nil]
theorem kCallA {e f : Nat} {args : List X} {gas : List GA} {ra : List RA} {p id v ev : Nat} {dp : Bool} {x y : DV} (hok : FnOK P f gas (fun ra' os => ra' = ra ∧ os.a p = y)) (hm : matchGs P s (args.map s.ev) gas) (hb : callB s e (args.map s.ev) gas false = true)
    (hbs : bindGs 0 (args.map s.ev) gas = [(p, id, false)]) (ho : s.ob id = ⟨v, ev, .arr dp x⟩) (hl : decide (ra.length ≤ 64) = true)
    (h : kont P (.t r tags :: k) Q .normal ((s.after e ra [(p, id, false)] ⟨fun _ => y, fun _ => []⟩).put d (resV s e ra))) : kont P (.t (.op oi [] d none q (.call e f args) r) tags :: k) Q .normal s :=
  kCall false hok hm hb nofun (fun ra' _ e => by rw [e.1]; simpa using hl) (fun ra' os e => by
    obtain ⟨rfl, hy⟩ := e
    rw [hbs, after_congr (os' := ⟨fun _ => y, fun _ => []⟩) ho hy]
    exact h)
theorem nmB {x : Nat} {l : List Nat} (h : (!l.contains x) = true) : x ∉ l := by simpa using h
theorem kCondP {c : X} {x y : C} {p : Prop} [dp : Decidable p] (hc : s.ev c = .c (.d (.sc (.bool (decide p))))) (h1 : p → kont P (.c x :: k) Q .normal s) (h2 : ¬ p → kont P (.c y :: k) Q .normal s) : kont P (.c (.cond c x y) :: k) Q .normal s :=
  kCond hc (fun h => h1 (of_decide_eq_true h)) (fun h => h2 (of_decide_eq_false h))
theorem kCondN {c : X} {x y : C} {b : Bool} (hc : s.ev c = .c (.d (.sc (.bool (!b))))) (h1 : b = false → kont P (.c x :: k) Q .normal s) (h2 : b = true → kont P (.c y :: k) Q .normal s) : kont P (.c (.cond c x y) :: k) Q .normal s :=
  kCond hc (fun h => h1 (by simpa using h)) (fun h => h2 (by simpa using h))
theorem kGS {g : Nat} {want b : Bool} {o : O} (hg : s.sl g = .c (.d (.sc (.bool b)))) (ht : b = true → kont P (.t (.op oi [] d (some (g, want)) q o r) tags :: k) Q .normal (s.put (some g) (.b true)))
    (hf : b = false → kont P (.t (.op oi [] d (some (g, want)) q o r) tags :: k) Q .normal (s.put (some g) (.b false))) : kont P (.t (.op oi [] d (some (g, want)) q o r) tags :: k) Q .normal s := by
  cases b with
  | true => have := ht rfl; rwa [put_id hg] at this
  | false => have := hf rfl; rwa [put_id hg] at this
theorem kGP {g : Nat} {want : Bool} {o : O} {p : Prop} [dp : Decidable p] (hg : s.sl g = .c (.d (.sc (.bool (decide p))))) (ht : p → kont P (.t (.op oi [] d (some (g, want)) q o r) tags :: k) Q .normal (s.put (some g) (.b true)))
    (hf : ¬ p → kont P (.t (.op oi [] d (some (g, want)) q o r) tags :: k) Q .normal (s.put (some g) (.b false))) : kont P (.t (.op oi [] d (some (g, want)) q o r) tags :: k) Q .normal s :=
  kGS hg (fun h => ht (of_decide_eq_true h)) (fun h => hf (of_decide_eq_false h))
theorem kGN {g : Nat} {want b : Bool} {o : O} (hg : s.sl g = .c (.d (.sc (.bool (!b))))) (ht : b = false → kont P (.t (.op oi [] d (some (g, want)) q o r) tags :: k) Q .normal (s.put (some g) (.b true)))
    (hf : b = true → kont P (.t (.op oi [] d (some (g, want)) q o r) tags :: k) Q .normal (s.put (some g) (.b false))) : kont P (.t (.op oi [] d (some (g, want)) q o r) tags :: k) Q .normal s :=
  kGS hg (fun h => ht (by simpa using h)) (fun h => hf (by simpa using h))
section
variable {α : Type} {f : α → List DV} {l l' : List α} {sz : Nat}
theorem row_map (sz : Nat) (f : α → List DV) (l : List α) (m : Nat) (h : m < l.length) : (DV.sl sz (l.map f)).row m = f l[m] := by
  unfold DV.row DV.rows
  rw [List.getD_eq_getElem?_getD, List.getElem?_map, List.getElem?_eq_getElem h]
  rfl
theorem len_map (sz : Nat) (f : α → List DV) (l : List α) : (DV.sl sz (l.map f)).len = l.length := by simp [DV.len]
theorem lt_of {n : Int} {m k : Nat} (hn : n = Int.ofNat m) (h : n < (k : Int)) : m < k := by subst hn; exact Int.ofNat_lt.1 h
theorem kLenR {x : X} {c : AC} (hx : s.ev x = .c c) (hy : s.rd c = some (.sl sz (l.map f))) (h : kont P (.t r tags :: k) Q .normal (s.put d (.i l.length))) : kont P (.t (.op oi [] d none q (.len x) r) tags :: k) Q .normal s :=
  kLen hx hy rfl (by rw [len_map]; exact h)
theorem kIadR {x i : X} {j : IntKind} {n : Int} {m : Nat} (hx : s.ev x = .c (.d (.sl sz (l.map f)))) (hi : s.ev i = .vv (.int j n)) (hn : n = Int.ofNat m) (hm : n < (l.length : Int)) (h : kont P (.t r tags :: k) Q .normal (s.put d (.c (.dpt (f (l[m]'(lt_of hn hm))))))) :
    kont P (.t (.op oi [] d none q (.iad sz x i) r) tags :: k) Q .normal s :=
  kIadD hx (hn ▸ hi) rfl rfl ⟨Int.natCast_nonneg m, by rw [len_map]; exact lt_of hn hm⟩ (by rw [show ((m : Nat) : Int).toNat = m from rfl, row_map _ _ _ _ (lt_of hn hm)]; exact h)
theorem kIadAR {x i : X} {j : IntKind} {n : Int} {m : Nat} {id ver ev : Nat} {dp : Bool} (hx : s.ev x = .c (.arr id ver)) (ho : s.ob id = ⟨ver, ev, .arr dp (.sl sz (l.map f))⟩) (hi : s.ev i = .vv (.int j n)) (hn : n = Int.ofNat m) (hm : n < (l.length : Int)) (h : kont P (.t r tags :: k) Q .normal (s.put d (.c (.ept id ver m 0)))) :
    kont P (.t (.op oi [] d none q (.iad sz x i) r) tags :: k) Q .normal s :=
  kIadA hx (hn ▸ hi) ho rfl ⟨Int.natCast_nonneg m, by rw [len_map]; exact lt_of hn hm⟩ h
section
variable {e bytes : Nat} {x y : X} {cx cy : AC} {dp dp' : Bool} {ids : List Nat} {id v ve : Nat} {vk : OK}
theorem kAppR (hx : s.ev x = .c cx) (hy : s.ev y = .c cy) (hb : s.base cx = some (dp, .sl sz (l.map f))) (hs : s.src cy = some (dp', .sl sz (l'.map f), ids)) (hid : cx.ownId e = id) (hob : s.ob id = ⟨v, ve, vk⟩)
    (h0 : Nat.ble 1 sz = true) (hh : (!s.hold.contains id && ids.all (fun j => !s.hold.contains j) && !ids.contains id && notMe id cy) = true)
    (hlen : (l.length + l'.length) * bytes ≤ 140737488355328 ∧ l.length + l'.length ≤ 9223372036854775807)
    (h : kont P (.t r tags :: k) Q .normal (((s.kill ids).setOb id ⟨v + 1, 0, .arr (dp && dp') (.sl sz ((l ++ l').map f))⟩).put d (.c (.arr id (v + 1))))) : kont P (.t (.op oi [] d none q (.app e sz bytes x y) r) tags :: k) Q .normal s :=
  kApp hx hy hb hs hid hob ⟨rfl, rfl, Nat.le_of_ble_eq_true h0⟩ (by cases cy <;> exact hh) (by rw [len_map, len_map]; exact hlen) (by
    rw [show (DV.sl sz (l.map f)).app (.sl sz (l'.map f)) = .sl sz ((l ++ l').map f) by simp [DV.app, DV.rows, DV.esz]]; exact h)
theorem kAppR1 {z : α} (hx : s.ev x = .c cx) (hy : s.ev y = .c cy) (hb : s.base cx = some (dp, .sl sz (l.map f))) (hs : s.src cy = some (dp', .sl sz [f z], ids)) (hid : cx.ownId e = id) (hob : s.ob id = ⟨v, ve, vk⟩)
    (h0 : Nat.ble 1 sz = true) (hh : (!s.hold.contains id && ids.all (fun j => !s.hold.contains j) && !ids.contains id && notMe id cy) = true)
    (hlen : (l.length + 1) * bytes ≤ 140737488355328 ∧ l.length + 1 ≤ 9223372036854775807)
    (h : kont P (.t r tags :: k) Q .normal (((s.kill ids).setOb id ⟨v + 1, 0, .arr (dp && dp') (.sl sz ((l ++ [z]).map f))⟩).put d (.c (.arr id (v + 1))))) : kont P (.t (.op oi [] d none q (.app e sz bytes x y) r) tags :: k) Q .normal s :=
  kAppR (l' := [z]) hx hy hb hs hid hob h0 hh hlen h
theorem kApp1R {z : α} (hx : s.ev x = .c cx) (hy : s.ev y = .c cy) (hs : s.src cy = some (dp', .sl sz (l'.map f), ids)) (hb : s.base cx = some (dp, .sl sz [f z])) (hid : cx.ownId e = id) (hob : s.ob id = ⟨v, ve, vk⟩)
    (h0 : Nat.ble 1 sz = true) (hh : (!s.hold.contains id && ids.all (fun j => !s.hold.contains j) && !ids.contains id && notMe id cy) = true)
    (hlen : (1 + l'.length) * bytes ≤ 140737488355328 ∧ 1 + l'.length ≤ 9223372036854775807)
    (h : kont P (.t r tags :: k) Q .normal (((s.kill ids).setOb id ⟨v + 1, 0, .arr (dp && dp') (.sl sz ((z :: l').map f))⟩).put d (.c (.arr id (v + 1))))) : kont P (.t (.op oi [] d none q (.app e sz bytes x y) r) tags :: k) Q .normal s :=
  kAppR (l := [z]) hx hy hb hs hid hob h0 hh hlen h
theorem kAppN (hx : s.ev x = .c cx) (hy : s.ev y = .c cy) (hb : s.base cx = some (dp, .sl sz [])) (hs : s.src cy = some (dp', .sl sz (l.map f), ids)) (hid : cx.ownId e = id) (hob : s.ob id = ⟨v, ve, vk⟩)
    (h0 : Nat.ble 1 sz = true) (hh : (!s.hold.contains id && ids.all (fun j => !s.hold.contains j) && !ids.contains id && notMe id cy) = true)
    (hlen : l.length * bytes ≤ 140737488355328 ∧ l.length ≤ 9223372036854775807)
    (h : kont P (.t r tags :: k) Q .normal (((s.kill ids).setOb id ⟨v + 1, 0, .arr (dp && dp') (.sl sz (l.map f))⟩).put d (.c (.arr id (v + 1))))) : kont P (.t (.op oi [] d none q (.app e sz bytes x y) r) tags :: k) Q .normal s :=
  kAppR (l := []) hx hy hb hs hid hob h0 hh (by simpa using hlen) h
end
end
end
end Hearth

/- The abstract machine: calls that write several rows. -/
namespace Hearth
open Go
def outsAre : List (Nat × DV) → Outs → Prop
  | [], _ => True
  | (q, y) :: l, os => os.a q = y ∧ outsAre l os
def tabO (ys : List (Nat × DV)) : Outs := ⟨fun q => match ys.find? (fun e => e.1 == q) with
  | some e => e.2
  | none => .sl 0 [], fun _ => []⟩
def OK.isArr : OK → Bool
  | .arr _ _ => true
  | _ => false
def chkB (s : St) (bs : List (Nat × Nat × Bool)) (ys : List (Nat × DV)) : Bool := bs.all fun b => b.2.2 || ((s.ob b.2.1).k.isArr && ys.any (fun e => e.1 == b.1))
theorem outsAre_get : ∀ {ys : List (Nat × DV)} {os : Outs}, outsAre ys os → ∀ e ∈ ys, os.a e.1 = e.2
  | [], _, _, _, h => by cases h
  | (q, y) :: l, os, h, e, he => by
    rcases List.mem_cons.1 he with rfl | he
    · exact h.1
    · exact outsAre_get h.2 e he
theorem tabO_a {ys : List (Nat × DV)} {os : Outs} (h : outsAre ys os) {q : Nat} (hq : ys.any (fun e => e.1 == q) = true) : os.a q = (tabO ys).a q := by
  show _ = match ys.find? (fun e => e.1 == q) with | some e => e.2 | none => .sl 0 []
  cases hf : ys.find? (fun e => e.1 == q) with
  | none =>
    obtain ⟨e, he, hq⟩ := List.any_eq_true.1 hq
    have := List.find?_eq_none.1 hf e he
    exact absurd hq this
  | some e =>
    have h1 := List.find?_some hf
    have h2 := outsAre_get h e (List.mem_of_find?_eq_some hf)
    simp only [beq_iff_eq] at h1
    rw [← h1]
    exact h2
section
variable {P : Program} {k : List It} {Q : Ex → St → Prop} {s : St} {r : T} {d : Option Nat} {q : Bool} {oi : Nat} {tags : List Nat}
theorem after_tab {e : Nat} {ra : List RA} {bs : List (Nat × Nat × Bool)} {os : Outs} {ys : List (Nat × DV)} (h : outsAre ys os) (hc : chkB s bs ys = true) : s.after e ra bs os = s.after e ra bs (tabO ys) := by
  unfold St.after
  split
  · rfl
  · refine congrArg (fun o => (⟨s.sl, o, s.hold⟩ : St)) (funext fun id' => ?_)
    split
    · rfl
    · cases hf : bs.find? (fun b => b.2.1 == id') with
      | none => rfl
      | some b =>
        obtain ⟨p, i, g⟩ := b
        cases g with
        | true => rfl
        | false =>
          have hm := List.mem_of_find?_eq_some hf
          have hi : i = id' := by simpa using List.find?_some hf
          have hb := List.all_eq_true.1 hc _ hm
          simp only [Bool.false_or, Bool.and_eq_true] at hb
          simp only
          subst hi
          cases hk : (s.ob i).k with
          | arr dp x => simp only [tabO_a h hb.2]
          | _ => rw [hk] at hb; simp [OK.isArr] at hb
theorem kCallM {e f : Nat} {args : List X} {gas : List GA} {ra : List RA} {ys : List (Nat × DV)} (hok : FnOK P f gas (fun ra' os => ra' = ra ∧ outsAre ys os)) (hm : matchGs P s (args.map s.ev) gas) (hb : callB s e (args.map s.ev) gas false = true)
    (hc : chkB s (bindGs 0 (args.map s.ev) gas) ys = true) (hl : decide (ra.length ≤ 64) = true)
    (h : kont P (.t r tags :: k) Q .normal ((s.after e ra (bindGs 0 (args.map s.ev) gas) (tabO ys)).put d (resV s e ra))) : kont P (.t (.op oi [] d none q (.call e f args) r) tags :: k) Q .normal s :=
  kCall false hok hm hb nofun (fun ra' _ e => by rw [e.1]; simpa using hl) (fun ra' os e => by
    obtain ⟨rfl, hy⟩ := e
    rw [after_tab hy hc]
    exact h)
section
variable {α : Type} {f : α → List DV} {l : List α} {sz : Nat}
end
section
variable {α : Type} {f : α → List DV} {l : List α} {sz : Nat}
theorem setRow_map {i off : Nat} {ds : List DV} {z : α} (hi : i < l.length) (hz : (f l[i]).take off ++ ds ++ (f l[i]).drop (off + ds.length) = f z) : setRow (.sl sz (l.map f)) i off ds = .sl sz ((l.set i z).map f) := by
  unfold setRow
  rw [row_map _ _ _ _ hi, hz]
  simp [DV.esz, DV.rows, List.map_set]
theorem kStoreER {n : Option Nat} {x v : X} {id ver ev i off : Nat} {dp dp2 : Bool} {u : AV} {ds : List DV} {ids : List Nat} {z : α} (hx : s.ev x = .c (.ept id ver i off)) (hv : s.ev v = u) (ho : s.ob id = ⟨ver, ev, .arr dp (.sl sz (l.map f))⟩) (hp : s.parts u.cells = some (ds, dp2, ids))
    (hh : (!s.hold.contains id && ids.all (fun j => !s.hold.contains j) && !ids.contains id && nodupB ids && decide (u.shape = n) && decide (0 < ds.length)) = true) (hver : (ids.isEmpty || Nat.ble 1 ver) = true) (hoff : Nat.ble (off + ds.length) sz = true)
    (hi : i < l.length) (hz : (f l[i]).take off ++ ds ++ (f l[i]).drop (off + ds.length) = f z)
    (h : kont P (.t r tags :: k) Q .normal (((s.kill ids).setOb id ⟨ver, ev + 1, .arr (dp && dp2) (.sl sz ((l.set i z).map f))⟩).put d (.c .any))) : kont P (.t (.op oi [] d none q (.store n x v) r) tags :: k) Q .normal s :=
  kStoreE hx hv ho hp hh (by
    simp only [Bool.or_eq_true, List.isEmpty_iff] at hver
    exact hver.imp (fun h => h) Nat.le_of_ble_eq_true) (Nat.le_of_ble_eq_true hoff) (by rw [setRow_map hi hz]; exact h)
end
theorem take_set_rep {α : Type} (a : List α) (c : α) (i : Nat) (h : i < a.length) : (a.take i ++ (List.replicate a.length c).drop i).set i a[i] = a.take (i + 1) ++ (List.replicate a.length c).drop (i + 1) := by
  rw [take_set_succ _ _ _ _ (by simpa using h) (by simp; omega), List.take_append_getElem]
theorem kCondIN {c : X} {x y : C} {a b : Int} (hc : s.ev c = .c (.d (.sc (.bool (a != b))))) (h1 : a ≠ b → kont P (.c x :: k) Q .normal s) (h2 : a = b → kont P (.c y :: k) Q .normal s) : kont P (.c (.cond c x y) :: k) Q .normal s :=
  kCond hc (fun h => h1 (by simpa using h)) (fun h => h2 (by simpa using h))
theorem kGIN {g : Nat} {want : Bool} {o : O} {a b : Int} (hg : s.sl g = .c (.d (.sc (.bool (a != b))))) (ht : a ≠ b → kont P (.t (.op oi [] d (some (g, want)) q o r) tags :: k) Q .normal (s.put (some g) (.b true)))
    (hf : a = b → kont P (.t (.op oi [] d (some (g, want)) q o r) tags :: k) Q .normal (s.put (some g) (.b false))) : kont P (.t (.op oi [] d (some (g, want)) q o r) tags :: k) Q .normal s :=
  kGS hg (fun h => ht (by simpa using h)) (fun h => hf (by simpa using h))
theorem kCut {x y : C} {s0 : St} (t : St) (h : kont P (.c x :: k) Q .normal t) (h2 : ∀ x' : C, (∀ s, Sub s t → kont P (.c x' :: k) Q .normal s) → kont P (.c y :: .c x' :: k) Q .normal s0) : kont P (.c y :: .c x :: k) Q .normal s0 :=
  h2 x (fun _ hs => kSub hs h)
end
end Hearth

/- The abstract machine: what a state tells, noted down. -/
namespace Hearth
open Go
def memoOb : List (Nat × Ob) → (Nat → Ob) → Nat → Ob
  | [], f, j => f j
  | (i, o) :: l, f, j => cond (Nat.beq j i) o (memoOb l f j)
def memoSl : List (Nat × AV) → (Nat → AV) → Nat → AV
  | [], f, j => f j
  | (i, o) :: l, f, j => cond (Nat.beq j i) o (memoSl l f j)
def agOb : List (Nat × Ob) → (Nat → Ob) → Prop
  | [], _ => True
  | (i, o) :: l, f => f i = o ∧ agOb l f
def agSl : List (Nat × AV) → (Nat → AV) → Prop
  | [], _ => True
  | (i, o) :: l, f => f i = o ∧ agSl l f
theorem memoOb_eq : ∀ {l : List (Nat × Ob)} {f : Nat → Ob}, agOb l f → memoOb l f = f
  | [], _, _ => rfl
  | (i, o) :: l, f, h => by
    funext j
    simp only [memoOb, memoOb_eq h.2]
    cases e : Nat.beq j i with
    | false => rfl
    | true => rw [Nat.eq_of_beq_eq_true e]; exact h.1.symm
theorem memoSl_eq : ∀ {l : List (Nat × AV)} {f : Nat → AV}, agSl l f → memoSl l f = f
  | [], _, _ => rfl
  | (i, o) :: l, f, h => by
    funext j
    simp only [memoSl, memoSl_eq h.2]
    cases e : Nat.beq j i with
    | false => rfl
    | true => rw [Nat.eq_of_beq_eq_true e]; exact h.1.symm
section
variable {P : Program} {ks : List It} {Q : Ex → St → Prop} {s : St} {e : Ex}
theorem kMem (lo : List (Nat × Ob)) (l : List (Nat × AV)) (hl : List Nat) (h1 : agOb lo s.ob) (h2 : agSl l s.sl) (h3 : s.hold = hl) (h : kont P ks Q e ⟨memoSl l s.sl, memoOb lo s.ob, hl⟩) : kont P ks Q e s := by
  rw [memoSl_eq h2, memoOb_eq h1] at h
  subst h3
  exact h
end
def St.fillG (s : St) : List (Nat × Nat × X) → Nat → List AC → Option (List AC)
  | [], _, rest => some rest
  | (off, n, x) :: r, pos, rest =>
    cond (Nat.ble pos off && Nat.ble (off - pos + n) rest.length && Nat.beq (s.ev x).cells.length n && Nat.ble 1 n && (s.ev x).cells.all s.live)
      (match s.fillG r (off + n) (rest.drop (off - pos + n)) with
       | some cs => some (rest.take (off - pos) ++ ((s.ev x).cells ++ cs))
       | none => none) none
theorem fillG_fill {s : St} : ∀ {ps : List (Nat × Nat × X)} {pos : Nat} {pre rest out : List AC}, pre.length = pos → s.fillG ps pos rest = some out → s.fill (pre ++ rest) ps = some (pre ++ out)
  | [], pos, pre, rest, out, hp, h => by simp only [St.fillG, Option.some.injEq] at h; subst h; rfl
  | (off, n, x) :: r, pos, pre, rest, out, hp, h => by
    simp only [St.fillG] at h
    cases hc : (Nat.ble pos off && Nat.ble (off - pos + n) rest.length && Nat.beq (s.ev x).cells.length n && Nat.ble 1 n && (s.ev x).cells.all s.live) with
    | false => rw [hc] at h; cases h
    | true =>
      rw [hc, cond_true] at h
      simp only [Bool.and_eq_true, Nat.ble_eq, Nat.beq_eq] at hc
      obtain ⟨⟨⟨⟨h1, h2⟩, h3⟩, h4⟩, h5⟩ := hc
      split at h
      · rename_i cs hcs
        simp only [Option.some.injEq] at h
        subst h
        subst hp
        have hpatch : patch (pre ++ rest) off (s.ev x).cells = (pre ++ rest.take (off - pre.length) ++ (s.ev x).cells) ++ rest.drop (off - pre.length + n) := by
          unfold patch
          rw [h3, List.take_append, List.drop_append, List.take_of_length_le (by omega), List.drop_eq_nil_of_le (as := pre) (by omega), List.nil_append, show off + n - pre.length = off - pre.length + n by omega]
        have hl : (pre ++ rest.take (off - pre.length) ++ (s.ev x).cells).length = off + n := by
          simp only [List.length_append, List.length_take, h3]; omega
        have ih := fillG_fill (s := s) (pre := pre ++ rest.take (off - pre.length) ++ (s.ev x).cells) hl hcs
        unfold St.fill
        rw [if_pos ⟨by simp only [List.length_append]; omega, h3, h4, h5⟩, hpatch, ih]
        simp only [List.append_assoc]
      · cases h
section
variable {P : Program} {k : List It} {Q : Ex → St → Prop} {s : St} {d : Option Nat} {q : Bool} {r : T} {oi : Nat} {tags : List Nat}
theorem kBuildG {zs : List X} {ps : List (Nat × Nat × X)} {cs : List AC} (hf : s.fillG ps 0 (zs.map X.ac) = some cs) (h : kont P (.t r tags :: k) Q .normal (s.put d (.g cs))) : kont P (.t (.op oi [] d none q (.build zs ps) r) tags :: k) Q .normal s :=
  kBuild (fillG_fill (pre := []) rfl hf) h
end
theorem Sub.normA {s : St} {l : List (Nat × AV)} {lo : List (Nat × Ob)} (hc : chkV s (obTab 1 lo) l := by (repeat' first | exact trivial | refine And.intro ?_ ?_ | refine Exists.intro _ (And.intro rfl ?_) | exact rfl | exact .inl rfl | exact .inr ⟨_, rfl, rfl⟩ | exact ⟨_, rfl⟩ | exact .inl (congrArg (fun z : Int => AC.d (.sc (.int .i64 z))) (by first | omega | (simp only; omega) | (simp; done) | (simp; omega))) | exact .inl (congrArg (fun z : Bool => AC.d (.sc (.bool z))) (by (simp_all); first | done | fail)) | (rw [← List.take_append_getElem (by assumption)]; rfl) | (rw [← take_set_rep _ _ _ (by assumption)]; rfl)); first | done | fail)
    (ho : chkW s (obTab 1 lo) lo := by (repeat' first | exact trivial | refine And.intro ?_ ?_ | refine Exists.intro _ (And.intro rfl ?_) | exact rfl | exact .inl rfl | exact .inr ⟨_, rfl, rfl⟩ | exact ⟨_, rfl⟩ | exact .inl (congrArg (fun z : Int => AC.d (.sc (.int .i64 z))) (by first | omega | (simp only; omega) | (simp; done) | (simp; omega))) | exact .inl (congrArg (fun z : Bool => AC.d (.sc (.bool z))) (by (simp_all); first | done | fail)) | (rw [← List.take_append_getElem (by assumption)]; rfl) | (rw [← take_set_rep _ _ _ (by assumption)]; rfl)); first | done | fail) : Sub s ⟨tabSl l, obTab 1 lo, []⟩ := Sub.norm hc ho
theorem endRetA {gas : List GA} {slots : List RSl} {R : List RA → Outs → Prop} {s : St} {ra : List RA} {avs : List AV} (h : s.resAts slots = some avs) (hR : R ra s.outs)
    (he : EndOK gas avs ra s := by (repeat' first | exact trivial | exact rfl | exact .inl rfl | exact nodupB_sound rfl | exact .inl (Nat.zero_lt_succ _) | exact .inr ⟨Nat.zero_lt_succ _, nmB rfl⟩ | exact fun _ => rfl | exact fun h => h | exact Nat.le_of_ble_eq_true rfl | exact ⟨_, rfl, fun _ => rfl⟩ | refine Exists.intro _ (And.intro rfl ?_) | refine ⟨?_, ?_⟩ | fail); first | done | fail) : EndQ gas slots R .ret s := endRet h he hR
section
variable {α : Type} {P : Program} {k : List It} {Q : Ex → St → Prop} {s : St} {d : Option Nat} {q : Bool} {r : T} {oi : Nat} {tags : List Nat} {f : α → List DV} {l : List α} {sz : Nat}
theorem kIadRW {x i : X} {j : IntKind} {n : Int} {m : Nat} {z : α} (hx : s.ev x = .c (.d (.sl sz (l.map f)))) (hi : s.ev i = .vv (.int j n)) (hn : n = Int.ofNat m) (hm : m < l.length) (hw : l[m]'hm = z) (h : kont P (.t r tags :: k) Q .normal (s.put d (.c (.dpt (f z))))) :
    kont P (.t (.op oi [] d none q (.iad sz x i) r) tags :: k) Q .normal s := by
  subst hw
  exact kIadR hx hi hn (by rw [hn]; exact Int.ofNat_lt.2 hm) h
end
def sr (n : Int) (m : Nat) : Int := n.fdiv (2 ^ m)
theorem sr_sr (n : Int) (i j : Nat) : sr (sr n i) j = sr n (i + j) := by
  unfold sr
  have h1 : (0 : Int) ≤ 2 ^ i := Int.pow_nonneg (by decide)
  have h2 : (0 : Int) ≤ 2 ^ j := Int.pow_nonneg (by decide)
  have h3 : (0 : Int) ≤ 2 ^ (i + j) := Int.pow_nonneg (by decide)
  rw [Int.fdiv_eq_ediv_of_nonneg _ h1, Int.fdiv_eq_ediv_of_nonneg _ h2, Int.fdiv_eq_ediv_of_nonneg _ h3, Int.ediv_ediv_of_nonneg h1, Int.pow_add]
section
variable {P : Program} {k : List It} {Q : Ex → St → Prop} {s : St} {d : Option Nat} {q : Bool} {r : T} {oi : Nat} {tags : List Nat}
theorem kShr {x y : X} {a : Int} {j : IntKind} {m : Nat} (hx : s.ev x = .i a) (hy : s.ev y = .vv (.int j m)) (hm : Nat.ble m 63 = true) (h : kont P (.t r tags :: k) Q .normal (s.put d (.i (sr a m)))) :
    kont P (.t (.op oi [] d none q (.bin .shr x y) r) tags :: k) Q .normal s :=
  kBin hx hy (by
    have : m ≤ 63 := Nat.le_of_ble_eq_true hm
    have h0 : ¬ ((m : Int) < 0) := by omega
    simp only [evBin, if_neg h0, Int.toNat_natCast]
    rw [show min m IntKind.i64.bits = m from Nat.min_eq_left (by show m ≤ 64; omega)]
    rfl) h
theorem kConvU8 {j : IntKind} {x : X} {n : Int} (hx : s.ev x = .vv (.int j n)) (h : kont P (.t r tags :: k) Q .normal (s.put d (.vv (.int .u8 ((u8 n).toNat : Int))))) : kont P (.t (.op oi [] d none q (.conv .u8 x) r) tags :: k) Q .normal s :=
  kConv hx (by rw [← u8_toNat]; exact h)
end
section
variable {α : Type} {P : Program} {k : List It} {Q : Ex → St → Prop} {s : St} {d : Option Nat} {q : Bool} {r : T} {oi : Nat} {tags : List Nat} {f : α → List DV} {l : List α} {sz : Nat}
variable {e bytes : Nat} {x y : X} {cx cy : AC} {dp dp' : Bool} {ids : List Nat} {id v ve : Nat} {vk : OK}
theorem kAppR4 {z1 z2 z3 z4 : α} (hx : s.ev x = .c cx) (hy : s.ev y = .c cy) (hb : s.base cx = some (dp, .sl sz (l.map f))) (hs : s.src cy = some (dp', .sl sz [f z1, f z2, f z3, f z4], ids)) (hid : cx.ownId e = id) (hob : s.ob id = ⟨v, ve, vk⟩)
    (h0 : Nat.ble 1 sz = true) (hh : (!s.hold.contains id && ids.all (fun j => !s.hold.contains j) && !ids.contains id && notMe id cy) = true)
    (hlen : (l.length + 4) * bytes ≤ 140737488355328 ∧ l.length + 4 ≤ 9223372036854775807)
    (h : kont P (.t r tags :: k) Q .normal (((s.kill ids).setOb id ⟨v + 1, 0, .arr (dp && dp') (.sl sz ((l ++ [z1, z2, z3, z4]).map f))⟩).put d (.c (.arr id (v + 1))))) : kont P (.t (.op oi [] d none q (.app e sz bytes x y) r) tags :: k) Q .normal s :=
  kAppR (l' := [z1, z2, z3, z4]) hx hy hb hs hid hob h0 hh hlen h
end
section
variable {P : Program} {k : List It} {Q : Ex → St → Prop} {s : St} {d : Option Nat} {q : Bool} {r : T} {oi : Nat} {tags : List Nat}
end
section
variable {P : Program} {k : List It} {Q : Ex → St → Prop} {s : St} {d : Option Nat} {q : Bool} {r : T} {oi : Nat} {tags : List Nat}
theorem kLen0 {x : X} {sz : Nat} (hx : s.ev x = .c (.d (.sl sz []))) (h : kont P (.t r tags :: k) Q .normal (s.put d (.i 0))) : kont P (.t (.op oi [] d none q (.len x) r) tags :: k) Q .normal s :=
  kLen hx rfl rfl (by exact h)
end
section
variable {P : Program} {k : List It} {Q : Ex → St → Prop} {s : St} {d : Option Nat} {q : Bool} {r : T} {oi : Nat} {tags : List Nat}
end
section
variable {P : Program} {k : List It} {Q : Ex → St → Prop} {s : St} {d : Option Nat} {q : Bool} {r : T} {oi : Nat} {tags : List Nat}
end
end Hearth

/- The abstract machine: draws (calls that tell something of a kind, and move a cursor), strings. -/
namespace Hearth
open Go
section
variable {P : Program} {k : List It} {Q : Ex → St → Prop} {s : St} {r : T} {d : Option Nat} {q : Bool} {oi : Nat} {tags : List Nat}
end
section
variable {P : Program} {k : List It} {Q : Ex → St → Prop} {s : St} {r : T} {d : Option Nat} {q : Bool} {oi : Nat} {tags : List Nat}
theorem kLitG {e sz n : Nat} {zs : List X} {ps : List (Nat × Nat × X)} {cs : List AC} {ds : List DV} {dp : Bool} {ids : List Nat} (hf : s.fillG ps 0 ((List.replicate n (zs.map X.ac)).flatten) = some cs) (hp : s.parts cs = some (ds, dp, ids))
    (hb : (Nat.beq cs.length (n * sz) && Nat.beq zs.length sz && Nat.ble (n * sz) 16777216 && Nat.ble n 9223372036854775807 && !s.hold.contains (rid e 0) && nodupB ids && ids.all (fun j => !s.hold.contains j) && !ids.contains (rid e 0)) = true) {vv ve : Nat} {vk : OK} (hob : s.ob (rid e 0) = ⟨vv, ve, vk⟩)
    (h : kont P (.t r tags :: k) Q .normal (((s.kill ids).setOb (rid e 0) ⟨vv + 1, 0, .arr dp (.sl sz (chunk sz n ds))⟩).put d (.c (.arr (rid e 0) (vv + 1))))) : kont P (.t (.op oi [] d none q (.lit e sz zs n ps) r) tags :: k) Q .normal s :=
  kLit (fillG_fill (pre := []) rfl hf) hp hb hob h
theorem kLitD {e sz n : Nat} {zs : List X} {ps : List (Nat × Nat × X)} {cs : List AC} {ds : List DV} {dp : Bool} {ids : List Nat} (hf : s.fillG ps 0 ((List.replicate n (zs.map X.ac)).flatten) = some cs) (hp : s.parts cs = some (ds, dp, ids))
    (hb : (Nat.beq cs.length (n * sz) && Nat.beq zs.length sz && Nat.ble (n * sz) 16777216 && Nat.ble n 9223372036854775807 && !s.hold.contains (rid e 0) && nodupB ids && ids.all (fun j => !s.hold.contains j) && !ids.contains (rid e 0)) = true) {vv ve : Nat} {vk : OK} (hob : s.ob (rid e 0) = ⟨vv, ve, vk⟩)
    (h : kont P (.t r tags :: k) Q .normal (((s.kill ids).setOb (rid e 0) ⟨vv + 1 + 1, 0, .dead⟩).put d (.dv (.sl sz (chunk sz n ds))))) : kont P (.t (.op oi [] d none q (.lit e sz zs n ps) r) tags :: k) Q .normal s :=
  kLitD0 (fillG_fill (pre := []) rfl hf) hp hb hob h
end
structure Cu where
  code : List UInt8
  i : Int
  h : Int
  i0 : 0 ≤ i
  i1 : i ≤ (code.length : Int)
  b : (code.length : Int) ≤ 9223372036854775807
def Cu.cells (c : Cu) : List DV := [encB c.code, .sc (.int .i64 c.i), .sc (.int .i64 c.h)]
end Hearth

/- The program's records, as data; what is said of them. -/
namespace Hearth
open Go
def encI (l : List Int) : DV := .sl 1 (l.map fun n => [.sc (.int .i64 n)])
def encBo (l : List Bool) : DV := .sl 1 (l.map fun n => [.sc (.bool n)])
structure Rr where
  name : List (List UInt8)
  ty : Int
  ttl : Int
  addr : Int
  to : List (List UInt8)
  text : List UInt8
  nums : List Int
  deriving DecidableEq
def Rr.cells (r : Rr) : List DV := [encBB r.name, .sc (.int .i64 r.ty), .sc (.int .i64 r.ttl), .sc (.int .i64 r.addr), encBB r.to, encB r.text, encI r.nums]
def encR (l : List Rr) : DV := .sl 7 (l.map Rr.cells)
structure Task where
  state : Int
  id : Int
  fname : List (List UInt8)
  ftype : Int
  name : List (List UInt8)
  zone : List (List UInt8)
  hints : List Int
  servers : List Int
  turn : Int
  sends : Int
  steps : Int
  code : Int
  answers : List Rr
  deriving DecidableEq
def Task.cells (t : Task) : List DV := [.sc (.int .i64 t.state), .sc (.int .i64 t.id), encBB t.fname, .sc (.int .i64 t.ftype), encBB t.name, encBB t.zone, encI t.hints, encI t.servers, .sc (.int .i64 t.turn), .sc (.int .i64 t.sends), .sc (.int .i64 t.steps), .sc (.int .i64 t.code), encR t.answers]
structure SmallR (r : Rr) : Prop where
  n : SmallBB r.name
  t : SmallBB r.to
  x : r.text.length ≤ 4194304
  m : r.nums.length ≤ 4194304
structure SmallRs (l : List Rr) : Prop where
  len : l.length ≤ 4194304
  mem : ∀ r ∈ l, SmallR r
structure SmallT (t : Task) : Prop where
  f : SmallBB t.fname
  n : SmallBB t.name
  z : SmallBB t.zone
  h : t.hints.length ≤ 4194304
  s : t.servers.length ≤ 4194304
  a : SmallRs t.answers
def fcAgg {α : Type} (D : α → Prop) (cells : α → List DV) (g : α → Bool) : FC := fun as R => ∃ x, D x ∧ as = [DA.agg (cells x)] ∧ R = fun ra => ra = [.one (.d (.sc (.bool (g x))))]
def idx {α : Type} (g : α → Bool) (l : List α) : Int := match l.findIdx? g with | some i => i | none => -1
theorem idx_ge {α : Type} (g : α → Bool) (l : List α) : decide (idx g l ≥ 0) = l.any g := by
  unfold idx
  cases h : l.findIdx? g with
  | none =>
    rw [List.findIdx?_eq_none_iff] at h
    have : l.any g = false := by rw [List.any_eq_false]; intro x hx; simp [h x hx]
    rw [this]; rfl
  | some i =>
    rw [List.findIdx?_eq_some_iff_getElem] at h
    obtain ⟨h1, h2, _⟩ := h
    have : l.any g = true := by rw [List.any_eq_true]; exact ⟨_, List.getElem_mem h1, h2⟩
    rw [this]; simp
def tyOk (t : Int) : Bool := t == 1 || t == 2 || t == 5 || t == 6 || t == 12 || t == 16 || t == 49
def isW (n : Int) : Bool := decide (0 ≤ n) && decide (n < 4294967296)
def hasTo (t : Int) : Bool := t == 2 || t == 5 || t == 6 || t == 12
def hasText (t : Int) : Bool := t == 16 || t == 49
@[simp] def numsOk (l : List Int) : Bool := if h : (l.length : Int) = 2 then isW (l[0]'(by omega)) && decide (0 ≤ l[1]'(by omega) ∧ l[1]'(by omega) ≤ 100000) else false
def dataOk (r : Rr) : Bool :=
  (if r.ty == 6 then numsOk r.nums else ((r.nums.length : Int) == 0)) && (if r.ty == 1 then isW r.addr else r.addr == 0) && (if hasTo r.ty then nameOk r.to else ((r.to.length : Int) == 0)) && (if hasText r.ty then decide ((r.text.length : Int) ≤ 40) else ((r.text.length : Int) == 0))
theorem len0 {α : Type} {l : List α} (h : (l.length : Int) = 0) : l = [] := List.eq_nil_of_length_eq_zero (by omega)
@[simp] theorem intlen0 {α : Type} {l : List α} : ((l.length : Int) = 0) ↔ l = [] := ⟨len0, fun h => by rw [h]; rfl⟩
@[simp] theorem isW_zero : isW 0 = true := rfl
@[simp] theorem nameOk_nil : nameOk [] = true := rfl
def rrOk (r : Rr) : Bool := nameOk r.name && tyOk r.ty && (decide (0 ≤ r.ttl) && decide (r.ttl ≤ 100000)) && dataOk r
def rrsOk (l : List Rr) : Bool := decide ((l.length : Int) ≤ 12) && l.all rrOk
@[simp] theorem bt_list (l : List UInt8) : (ByteArray.mk l.toArray).toList = l := by rw [ByteArray.toList_eq]
def cmpB (a b : List UInt8) : Int := if Op.bytesLess a b = true then -1 else if (!(Op.bytesLess a b || a == b)) = true then 1 else 0
def cmpL : List (List UInt8) → List (List UInt8) → Int
  | [], [] => 0
  | [], _ :: _ => -1
  | _ :: _, [] => 1
  | x :: xs, y :: ys => if cmpB x y = 0 then cmpL xs ys else cmpB x y
def cmpN (a b : List (List UInt8)) : Int := cmpL a.reverse b.reverse
def underN (n z : List (List UInt8)) : Bool := decide (z.length ≤ n.length) && decide (n.drop (n.length - z.length) = z)
structure BigBB (a : List (List UInt8)) : Prop where
  len : (a.length : Int) ≤ 9223372036854775807
  mem : ∀ b ∈ a, (b.length : Int) ≤ 9223372036854775807
structure BigR (r : Rr) : Prop where
  n : BigBB r.name
  t : BigBB r.to
  x : (r.text.length : Int) ≤ 9223372036854775807
  m : (r.nums.length : Int) ≤ 9223372036854775807
structure BigRs (l : List Rr) : Prop where
  len : (l.length : Int) ≤ 9223372036854775807
  mem : ∀ r ∈ l, BigR r
def costBB (a : List (List UInt8)) : Nat := a.length + a.flatten.length
def costR (r : Rr) : Nat := costBB r.name + costBB r.to + r.text.length + r.nums.length
def costRs : List Rr → Nat
  | [] => 0
  | r :: l => costR r + costRs l
def costT (t : Task) : Nat := costBB t.fname + costBB t.name + costBB t.zone + t.hints.length + t.servers.length + (t.answers.length + costRs t.answers)
theorem costRs_take (l : List Rr) (i : Nat) (h : i < l.length) : costRs (l.take (i + 1)) = costRs (l.take i) + costR l[i] := by
  induction l generalizing i with
  | nil => simp at h
  | cons r l ih =>
    cases i with
    | zero => simp [costRs]
    | succ i => simp only [List.take_succ_cons, costRs, List.getElem_cons_succ]; rw [ih i (by simpa using h)]; omega
theorem costRs_le (l : List Rr) (i : Nat) : costRs (l.take i) ≤ costRs l := by
  induction l generalizing i with
  | nil => simp [costRs]
  | cons r l ih =>
    cases i with
    | zero => simp [costRs]
    | succ i => simp only [List.take_succ_cons, costRs]; have := ih i; omega
theorem costR_mem {l : List Rr} {r : Rr} (h : r ∈ l) : costR r ≤ costRs l := by
  induction l with
  | nil => cases h
  | cons x l ih =>
    simp only [costRs]
    rcases List.mem_cons.1 h with rfl | h
    · omega
    · have := ih h; omega
theorem SmallBB.ofCost {a : List (List UInt8)} (h : costBB a ≤ 1048576) : SmallBB a := SmallBB.of h
theorem SmallR.ofCost {r : Rr} (h : costR r ≤ 1048576) : SmallR r := by
  unfold costR at h
  exact ⟨.ofCost (by omega), .ofCost (by omega), by omega, by omega⟩
theorem SmallRs.ofCost {l : List Rr} (h : l.length + costRs l ≤ 1048576) : SmallRs l :=
  ⟨by omega, fun r hr => .ofCost (by have := costR_mem hr; omega)⟩
theorem SmallT.ofCost {t : Task} (h : costT t ≤ 1048576) : SmallT t := by
  unfold costT at h
  exact ⟨.ofCost (by omega), .ofCost (by omega), .ofCost (by omega), by omega, by omega, .ofCost (by omega)⟩
theorem szOut_add {n : Int} {c d : Nat} (h : ¬ szOut n c < 0) : szOut (szOut n c) d = szOut n (c + d) := by
  have e : szOut n c = n - c := by unfold szOut at *; split at h <;> omega
  rw [e]; unfold szOut; congr 1 <;> (first | rfl | (simp only [eq_iff_iff]; omega) | omega)
theorem szOut_neg {n : Int} {c : Nat} (h : szOut n c < 0) : szOut n c = -1 := by unfold szOut at *; split at h <;> omega
theorem szOut_lt_iff {n : Int} {c : Nat} : szOut n c < 0 ↔ n - c < 0 := by unfold szOut; split <;> omega
theorem szOut_pos {n : Int} {c : Nat} (h : 0 ≤ n - c) : szOut n c = n - c := if_neg (by omega)
theorem szOut_one {n : Int} {c : Nat} (h : n - c < 0) : szOut n c = -1 := if_pos h
@[simp] theorem costRs_nil : costRs [] = 0 := rfl
def marksI (n : Nat) (k : Int) : List Int := (List.range n).map fun i : Nat => k + (i : Int)
theorem marksI_len (n : Nat) (k : Int) : (marksI n k).length = n := by simp [marksI]
theorem marksI_succ (n : Nat) (k : Int) : marksI (n + 1) k = marksI n k ++ [k + n] := by simp [marksI, List.range_succ]
theorem marksI_get (n : Nat) (k : Int) (i : Nat) (h : i < (marksI n k).length) : (marksI n k)[i] = k + i := by simp [marksI]
def cntBB (a : List (List UInt8)) : Nat := a.flatten.length
def cntR (r : Rr) : Nat := cntBB r.name + 3 + cntBB r.to + r.text.length + r.nums.length
def markR (r : Rr) (k : Int) : Rr := ⟨markss r.name k, k + cntBB r.name, k + cntBB r.name + 1, k + cntBB r.name + 1 + 1, markss r.to (k + cntBB r.name + 1 + 1 + 1), marks r.text.length (k + cntBB r.name + 1 + 1 + 1 + cntBB r.to), marksI r.nums.length (k + cntBB r.name + 1 + 1 + 1 + cntBB r.to + r.text.length)⟩
def cntRs : List Rr → Nat
  | [] => 0
  | r :: l => cntR r + cntRs l
def markRs : List Rr → Int → List Rr
  | [], _ => []
  | r :: l, k => markR r k :: markRs l (k + cntR r)
@[simp] theorem cntRs_nil : cntRs [] = 0 := rfl
theorem markRs_len : ∀ (l : List Rr) (k : Int), (markRs l k).length = l.length
  | [], _ => rfl
  | _ :: l, k => by simp [markRs, markRs_len l]
theorem cntRs_append : ∀ (l m : List Rr), cntRs (l ++ m) = cntRs l + cntRs m
  | [], m => by simp [cntRs]
  | r :: l, m => by simp only [List.cons_append, cntRs, cntRs_append l m]; omega
theorem markRs_append : ∀ (l : List Rr) (r : Rr) (k : Int), markRs (l ++ [r]) k = markRs l k ++ [markR r (k + cntRs l)]
  | [], r, k => by simp [markRs, cntRs]
  | x :: l, r, k => by
    simp only [List.cons_append, markRs, markRs_append l r, cntRs]
    rw [show k + ((cntR x + cntRs l : Nat) : Int) = k + cntR x + cntRs l by omega]
theorem cntRs_take (l : List Rr) (i : Nat) (h : i < l.length) : cntRs (l.take (i + 1)) = cntRs (l.take i) + cntR l[i] := by
  rw [← List.take_append_getElem h, cntRs_append]; simp [cntRs]
theorem cntRs_le (l : List Rr) (i : Nat) : cntRs (l.take i) ≤ cntRs l := by
  have := congrArg cntRs (List.take_append_drop i l)
  rw [cntRs_append] at this; omega
theorem markRs_get : ∀ (l : List Rr) (k : Int) (i : Nat) (h : i < (markRs l k).length) (h' : i < l.length), (markRs l k)[i] = markR l[i] (k + cntRs (l.take i))
  | r :: l, k, 0, _, _ => by simp [markRs, cntRs]
  | r :: l, k, i + 1, h, h' => by
    simp only [markRs, List.getElem_cons_succ, List.take_succ_cons, cntRs]
    rw [markRs_get l _ i (by simpa [markRs] using h) (by simpa using h')]
    congr 1; omega
theorem len_encR (b : List Rr) : (encR b).len = b.length := by simp [encR, DV.len]
theorem cntBB_le (a : List (List UInt8)) : cntBB a ≤ costBB a := by unfold cntBB costBB; omega
theorem cntR_le (r : Rr) : cntR r ≤ costR r + 3 := by have := cntBB_le r.name; have := cntBB_le r.to; unfold cntR costR; omega
theorem cntRs_cost : ∀ l : List Rr, cntRs l ≤ costRs l + 3 * l.length
  | [] => by simp [cntRs]
  | r :: l => by have := cntR_le r; have := cntRs_cost l; simp only [cntRs, costRs, List.length_cons]; omega
structure Zone where
  origin : List (List UInt8)
  rrs : List Rr
  deriving DecidableEq
def Zone.cells (z : Zone) : List DV := [encBB z.origin, encR z.rrs]
structure SmallZ (z : Zone) : Prop where
  o : SmallBB z.origin
  r : SmallRs z.rrs
def costZ (z : Zone) : Nat := costBB z.origin + (z.rrs.length + costRs z.rrs)
theorem SmallZ.ofCost {z : Zone} (h : costZ z ≤ 1048576) : SmallZ z := by unfold costZ at h; exact ⟨.ofCost (by omega), .ofCost (by omega)⟩
def w2 (n : Int) : List UInt8 := [u8 (sr n 8), u8 n]
def w4 (n : Int) : List UInt8 := [u8 (sr n 24), u8 (sr n 16), u8 (sr n 8), u8 n]
theorem w4_two (n : Int) : w2 (sr n 16) ++ w2 n = w4 n := by simp [w2, w4, sr_sr]
def wireL (a : List (List UInt8)) : List UInt8 := a.flatMap fun l => u8 l.length :: l
theorem wireL_take (a : List (List UInt8)) (i : Nat) (h : i < a.length) : wireL (a.take (i + 1)) = wireL (a.take i) ++ [u8 a[i].length] ++ a[i] := by
  unfold wireL
  rw [← List.take_append_getElem h, List.flatMap_append]
  simp
theorem wireL_len (a : List (List UInt8)) : (wireL a).length = a.length + a.flatten.length := by
  induction a with
  | nil => rfl
  | cons x a ih => simp only [wireL, List.flatMap_cons, List.length_append, List.length_cons, List.flatten_cons] at *; omega
theorem wireL_le (a : List (List UInt8)) (i : Nat) : (wireL (a.take i)).length ≤ a.length + a.flatten.length := by
  rw [wireL_len]
  have := flat_le a i
  simp only [List.length_take]; omega
def wireN (a : List (List UInt8)) : List UInt8 := wireL a ++ [0]
def rdata (r : Rr) : List UInt8 := if r.ty == 1 then w4 r.addr else if hasTo r.ty then wireN r.to ++ r.nums.flatMap w4 else u8 r.text.length :: r.text
def cmpI (a b : Int) : Int := if a < b then -1 else if b < a then 1 else 0
def cmpR (a b : Rr) : Int := if cmpN a.name b.name = 0 then (if cmpI a.ty b.ty = 0 then cmpB (rdata a) (rdata b) else cmpI a.ty b.ty) else cmpN a.name b.name
def setOf (l : List Rr) (n : List (List UInt8)) (t : Int) : List Rr := l.filter fun r => decide (r.name = n) && (t == 255 || r.ty == t)
theorem row_encRS (l : List Rr) (i : Nat) (r : Rr) (h : i < l.length) : (encR (l.set i r)).row i = r.cells := by
  unfold DV.row encR DV.rows
  rw [List.getD_eq_getElem?_getD, List.getElem?_map, List.getElem?_eq_getElem (by simpa using h)]
  simp
theorem at_encRS (l : List Rr) (i j : Nat) (r : Rr) (h : i < l.length) : (encR (l.set i r)).at i j = r.cells.getD j (.sl 0 []) := by
  have := row_encRS l i r h
  unfold DV.row at this
  unfold DV.at
  rw [this]
theorem setCell_encRS (l : List Rr) (i j : Nat) (r r' : Rr) (d : DV) (h : i < l.length) (hr : r.cells.set j d = r'.cells) : (encR (l.set i r)).setCell i j d = encR (l.set i r') := by
  have := row_encRS l i r h
  unfold DV.row at this
  unfold DV.setCell
  rw [this, hr]
  simp [encR, DV.rows, DV.esz, List.map_set]
theorem setRow_encRS (l : List Rr) (i off : Nat) (r r' : Rr) (ds : List DV) (h : i < l.length) (hr : r.cells.take off ++ ds ++ r.cells.drop (off + ds.length) = r'.cells) : setRow (encR (l.set i r)) i off ds = encR (l.set i r') := by
  have := row_encRS l i r h
  unfold setRow
  rw [this, hr]
  simp [encR, DV.rows, DV.esz, List.map_set]
theorem set_self (l : List Rr) (i : Nat) (h : i < l.length) : l.set i l[i] = l := by simp
section
variable {P : Program} {k : List It} {Q : Ex → St → Prop} {s : St} {d : Option Nat} {q : Bool} {r : T} {oi : Nat} {tags : List Nat}
end
theorem w4_len (n : Int) : (w4 n).length = 4 := rfl
theorem wireN_len (a : List (List UInt8)) : (wireN a).length = a.length + a.flatten.length + 1 := by simp [wireN, wireL_len]
theorem flatMap_take {α β : Type} (f : α → List β) (l : List α) (i : Nat) (h : i < l.length) : (l.take (i + 1)).flatMap f = (l.take i).flatMap f ++ f l[i] := by
  rw [← List.take_append_getElem h, List.flatMap_append]; simp
theorem w4s_len (l : List Int) : (l.flatMap w4).length = 4 * l.length := by
  induction l with
  | nil => rfl
  | cons x l ih => simp only [List.flatMap_cons, List.length_append, ih, w4_len, List.length_cons]; omega
theorem two_nums (l : List Int) (h : l.length = 2) : l.flatMap w4 = w4 (l[0]'(by omega)) ++ w4 (l[1]'(by omega)) := by
  match l, h with
  | [x, y], _ => simp
theorem rdata_A {r : Rr} (h : r.ty = 1) : rdata r = w4 r.addr := by simp [rdata, h]
theorem rdata_to {r : Rr} (h : r.ty ≠ 1) (h2 : hasTo r.ty = true) : rdata r = wireN r.to ++ r.nums.flatMap w4 := by simp [rdata, h, h2]
theorem rdata_text {r : Rr} (h : r.ty ≠ 1) (h2 : hasTo r.ty = false) : rdata r = u8 r.text.length :: r.text := by simp [rdata, h, h2]
theorem rdata_soa {r : Rr} (hk : rrOk r = true) (h : r.ty = 6) : ∃ (h2 : (r.nums.length : Int) = 2), (0 ≤ r.nums[0]'(by omega) ∧ r.nums[0]'(by omega) < 4294967296) ∧ (0 ≤ r.nums[1]'(by omega) ∧ r.nums[1]'(by omega) ≤ 100000) ∧ rdata r = wireN r.to ++ w4 (r.nums[0]'(by omega)) ++ w4 (r.nums[1]'(by omega)) := by
  have hd : dataOk r = true := by simp only [rrOk, Bool.and_eq_true] at hk; exact hk.2
  simp only [dataOk, Bool.and_eq_true, h] at hd
  have hn : numsOk r.nums = true := by simpa using hd.1.1.1
  simp only [numsOk] at hn
  split at hn
  · rename_i hl
    simp only [Bool.and_eq_true, isW, decide_eq_true_eq] at hn
    refine ⟨hl, hn.1, hn.2, ?_⟩
    rw [rdata_to (by omega) (by rw [h]; rfl)]
    rw [two_nums r.nums (by omega), List.append_assoc]
  · cases hn
theorem rdata_nm {r : Rr} (hk : rrOk r = true) (h : r.ty ≠ 6) : r.nums = [] := by
  have hd : dataOk r = true := by simp only [rrOk, Bool.and_eq_true] at hk; exact hk.2
  simp only [dataOk, Bool.and_eq_true] at hd
  have h1 := hd.1.1.1
  rw [if_neg (by simpa using h)] at h1
  simpa using h1
theorem rdata_ad {r : Rr} (hk : rrOk r = true) (h : r.ty = 1) : 0 ≤ r.addr ∧ r.addr < 4294967296 := by
  have hd : dataOk r = true := by simp only [rrOk, Bool.and_eq_true] at hk; exact hk.2
  simp only [dataOk, Bool.and_eq_true, h] at hd
  have h1 := hd.1.1.2
  simpa [isW] using h1
def aloneR (l : List Rr) (i : Nat) : Bool := match l[i]? with
  | none => true
  | some r => !(r.ty == 5) || decide ((setOf l r.name 255).length ≤ 1)
def prevB (l : List Rr) (i : Nat) : Bool := if h : 0 < i ∧ i < l.length then decide (cmpR (l[i - 1]'(by omega)) (l[i]'(by omega)) < 0) else true
def zAt (z : Zone) (i : Nat) : Bool := if h : i < z.rrs.length then underN z.rrs[i].name z.origin && prevB z.rrs i && aloneR z.rrs i && (!(z.rrs[i].ty == 6) || decide (z.rrs[i].name = z.origin)) else true
def zTops (l : List Rr) : Int := ((l.filter fun r => r.ty == 6).length : Int)
def zoneOk (z : Zone) : Bool := nameOk z.origin && decide (z.rrs.length ≤ 60) && z.rrs.all rrOk && (List.range z.rrs.length).all (zAt z) && decide (zTops z.rrs = 1)
def topR (o : List (List UInt8)) (s : Int) : Rr := ⟨o, 6, 60, 0, o, [], [s, 60]⟩
def newZ (o : List (List UInt8)) (s : Int) : Zone := ⟨o, [topR o s]⟩
def zeroZ : Zone := ⟨[], []⟩
theorem SmallZ.zero : SmallZ zeroZ := ⟨.nil, ⟨Nat.zero_le _, nofun⟩⟩
theorem SmallZ.top {o : List (List UInt8)} (s : Int) (h : SmallBB o) : SmallZ (newZ o s) := ⟨h, ⟨by simp [newZ], fun r hr => by
  simp only [newZ, List.mem_singleton] at hr
  subst hr
  exact ⟨h, h, by simp [topR], by simp [topR]⟩⟩⟩
theorem SmallRs.filter {l : List Rr} (h : SmallRs l) (f : Rr → Bool) : SmallRs (l.filter f) := ⟨Nat.le_trans (List.length_filter_le _ _) h.len, fun r hr => h.mem r (List.mem_filter.1 hr).1⟩
theorem SmallRs.nil : SmallRs [] := ⟨Nat.zero_le _, nofun⟩
def keptR (z : Zone) (f : Rr → Bool) : Zone := ⟨z.origin, z.rrs.filter f⟩
theorem SmallZ.kept {z : Zone} (h : SmallZ z) (f : Rr → Bool) : SmallZ (keptR z f) := ⟨h.o, h.r.filter f⟩
def askedT (t : Int) : Bool := tyOk t || t == 255
structure Evt where
  kind : Int
  bytes : List UInt8
  ip : Int
  client : List UInt8
  host : List UInt8
  at_ : Int
  lost : List Bool
  deriving DecidableEq
def Evt.cells (e : Evt) : List DV := [.sc (.int .i64 e.kind), encB e.bytes, .sc (.int .i64 e.ip), encB e.client, encB e.host, .sc (.int .i64 e.at_), encBo e.lost]
structure SmallE (e : Evt) : Prop where
  b : e.bytes.length ≤ 4194304
  c : e.client.length ≤ 4194304
  h : e.host.length ≤ 4194304
  l : e.lost.length ≤ 4194304
def costE (e : Evt) : Nat := e.bytes.length + e.client.length + e.host.length + e.lost.length
theorem SmallE.ofCost {e : Evt} (h : costE e ≤ 1048576) : SmallE e := by unfold costE at h; exact ⟨by omega, by omega, by omega, by omega⟩
def TxP (k ip cl hl lb w : Int) : Prop :=
  (k = 1 ∧ 167772161 ≤ ip ∧ ip ≤ 167772414 ∧ 1 ≤ cl ∧ cl ≤ 16 ∧ lb = 1 ∧ 0 ≤ w ∧ w ≤ 2000000) ∨ (k = 2 ∧ 167772161 ≤ ip ∧ ip ≤ 167772414 ∧ 1 ≤ cl ∧ cl ≤ 16 ∧ hl = 0 ∧ w = 0) ∨ (k = 3 ∧ ip = 0 ∧ cl = 0 ∧ hl = 0 ∧ 0 ≤ w ∧ w ≤ 1000000)
instance (k ip cl hl lb w : Int) : Decidable (TxP k ip cl hl lb w) := by unfold TxP; infer_instance
def EvP (k ip cl hl lb w bl ll : Int) : Prop :=
  (k = 0 ∨ (bl = 0 ∧ ll = 0)) ∧ (TxP k ip cl hl lb w ∨ (ip = 0 ∧ cl = 0 ∧ hl = 0 ∧ ((k = 0 ∧ bl ≤ 512 ∧ ll ≤ 24 ∧ w = 0) ∨ (k = 4 ∧ 0 ≤ w ∧ w ≤ 60) ∨ (k = 5 ∧ w = 0))))
instance (k ip cl hl lb w bl ll : Int) : Decidable (EvP k ip cl hl lb w bl ll) := by unfold EvP; infer_instance
def emptyR : Rr := ⟨[], 0, 0, 0, [], [], []⟩
theorem zone_rrs {z : Zone} (h : zoneOk z = true) : ∀ r ∈ z.rrs, rrOk r = true := by
  unfold zoneOk at h
  simp only [Bool.and_eq_true] at h
  exact List.all_eq_true.1 h.1.1.2
structure Qn where
  name : List (List UInt8)
  ty : Int
  deriving DecidableEq
def Qn.cells (q : Qn) : List DV := [encBB q.name, .sc (.int .i64 q.ty)]
def encQ (l : List Qn) : DV := .sl 2 (l.map Qn.cells)
theorem len_encQ (b : List Qn) : (encQ b).len = b.length := by simp [encQ, DV.len]
structure SmallQs (l : List Qn) : Prop where
  len : l.length ≤ 4194304
  mem : ∀ q ∈ l, SmallBB q.name
theorem Qn.eq_dec (a b : Qn) : (decide (a.name = b.name) && decide (a.ty = b.ty)) = decide (a = b) := by
  cases a; cases b; simp
def cntQ1 (q : Qn) : Nat := q.name.flatten.length + 1
def markQ1 (q : Qn) (k : Int) : Qn := ⟨markss q.name k, k + (q.name.flatten.length : Int)⟩
def cntQs : List Qn → Nat
  | [] => 0
  | r :: l => cntQ1 r + cntQs l
def markQs : List Qn → Int → List Qn
  | [], _ => []
  | r :: l, k => markQ1 r k :: markQs l (k + cntQ1 r)
@[simp] theorem cntQs_nil : cntQs [] = 0 := rfl
theorem markQs_len : ∀ (l : List Qn) (k : Int), (markQs l k).length = l.length
  | [], _ => rfl
  | _ :: l, k => by simp [markQs, markQs_len l]
theorem cntQs_append : ∀ (l m : List Qn), cntQs (l ++ m) = cntQs l + cntQs m
  | [], m => by simp [cntQs]
  | r :: l, m => by simp only [List.cons_append, cntQs, cntQs_append l m]; omega
theorem markQs_append : ∀ (l : List Qn) (r : Qn) (k : Int), markQs (l ++ [r]) k = markQs l k ++ [markQ1 r (k + cntQs l)]
  | [], r, k => by simp [markQs, cntQs]
  | x :: l, r, k => by
    simp only [List.cons_append, markQs, markQs_append l r, cntQs]
    rw [show k + ((cntQ1 x + cntQs l : Nat) : Int) = k + cntQ1 x + cntQs l by omega]
theorem cntQs_take (l : List Qn) (i : Nat) (h : i < l.length) : cntQs (l.take (i + 1)) = cntQs (l.take i) + cntQ1 l[i] := by
  rw [← List.take_append_getElem h, cntQs_append]; simp [cntQs]
theorem cntQs_le (l : List Qn) (i : Nat) : cntQs (l.take i) ≤ cntQs l := by
  have := congrArg cntQs (List.take_append_drop i l)
  rw [cntQs_append] at this; omega
theorem markQs_get : ∀ (l : List Qn) (k : Int) (i : Nat) (h : i < (markQs l k).length) (h' : i < l.length), (markQs l k)[i] = markQ1 l[i] (k + cntQs (l.take i))
  | r :: l, k, 0, _, _ => by simp [markQs, cntQs]
  | r :: l, k, i + 1, h, h' => by
    simp only [markQs, List.getElem_cons_succ, List.take_succ_cons, cntQs]
    rw [markQs_get l _ i (by simpa [markQs] using h) (by simpa using h')]
    congr 1; omega
theorem row_encQS (l : List Qn) (i : Nat) (r : Qn) (h : i < l.length) : (encQ (l.set i r)).row i = r.cells := by
  unfold DV.row encQ DV.rows
  rw [List.getD_eq_getElem?_getD, List.getElem?_map, List.getElem?_eq_getElem (by simpa using h)]
  simp
theorem at_encQS (l : List Qn) (i j : Nat) (r : Qn) (h : i < l.length) : (encQ (l.set i r)).at i j = r.cells.getD j (.sl 0 []) := by
  have := row_encQS l i r h
  unfold DV.row at this
  unfold DV.at
  rw [this]
theorem setCell_encQS (l : List Qn) (i j : Nat) (r r' : Qn) (d : DV) (h : i < l.length) (hr : r.cells.set j d = r'.cells) : (encQ (l.set i r)).setCell i j d = encQ (l.set i r') := by
  have := row_encQS l i r h
  unfold DV.row at this
  unfold DV.setCell
  rw [this, hr]
  simp [encQ, DV.rows, DV.esz, List.map_set]
theorem setRow_encQS (l : List Qn) (i off : Nat) (r r' : Qn) (ds : List DV) (h : i < l.length) (hr : r.cells.take off ++ ds ++ r.cells.drop (off + ds.length) = r'.cells) : setRow (encQ (l.set i r)) i off ds = encQ (l.set i r') := by
  have := row_encQS l i r h
  unfold setRow
  rw [this, hr]
  simp [encQ, DV.rows, DV.esz, List.map_set]
theorem set_selfQ (l : List Qn) (i : Nat) (h : i < l.length) : l.set i l[i] = l := by simp
def nilW : DV := .sl 9 []
end Hearth

/- A map literal of numbers and strings, and what is looked up in it. -/
namespace Hearth
open Go Go.RowKit
def Tab (w : World) (r : Nat) (l : List (Int × ByteArray)) : Prop :=
  ∃ (es : Array MapEntry) (clock : Nat), w.heap[r]? = some (.map es clock) ∧ es.toList.map (fun e => (e.key, e.val)) = l.map fun e => (Value.int .i64 e.1, Value.string e.2)
theorem findNow_tab (n : Int) : ∀ (es : List MapEntry) (l : List (Int × ByteArray)) (i : Nat), es.map (fun e => (e.key, e.val)) = l.map (fun e => (Value.int .i64 e.1, Value.string e.2)) →
    ∃ j, Instr.findNow (.int .i64) (.int .i64 n) es i = some ((l.find? fun e => n == e.1).map fun e => (j, Value.string e.2))
  | [], [], i, _ => ⟨0, rfl⟩
  | [], _ :: _, i, h => by simp at h
  | _ :: _, [], i, h => by simp at h
  | e :: es, x :: l, i, h => by
    simp only [List.map_cons, List.cons.injEq, Prod.mk.injEq] at h
    obtain ⟨⟨h1, h2⟩, h3⟩ := h
    simp only [Instr.findNow, h1, Instr.sameNow, if_true, List.find?_cons, h2]
    by_cases hn : n = x.1
    · subst hn; exact ⟨i, by simp⟩
    · have : (n == x.1) = false := by simpa using hn
      rw [this]
      exact findNow_tab n es l (i + 1) h3
section
variable {P : Program} {w : World} {t kt et : TypeId} {r : Nat} {n : Int} {l : List (Int × ByteArray)}
theorem run_insert {b : ByteArray} (ht : P.underlying t = some (.map kt et)) (hkt : P.underlying kt = some (.int .i64)) (hT : Tab w r l) (hf : l.find? (fun e => n == e.1) = none) :
    ∃ w', (Instr.mapUpdate t (.map (some r)) (.int .i64 n) (.string b)).run P w = .ok () w' ∧ Tab w' r (l ++ [(n, b)]) ∧ Ext w w' (fun b => b = r) := by
  obtain ⟨es, clock, hb, he⟩ := hT
  obtain ⟨j, hj⟩ := findNow_tab n es.toList l 0 he
  rw [hf] at hj
  have hc : (Instr.checkKey false 10000 kt (.int .i64 n)).run P w = .ok () w := MapKept.run_checkKey (k := .int .i64 n) hkt (by simp [MapKept.IsKey]) false 9999
  have hs := MapKept.heap_set (o' := .map (es.push { key := .int .i64 n, val := .string b, born := clock }) (clock + 1)) hb
  refine ⟨{ w with heap := w.heap.setIfInBounds r (.map (es.push { key := .int .i64 n, val := .string b, born := clock }) (clock + 1)) }, ?_, ⟨_, _, hs.1, by simp [he]⟩, ⟨rfl, rfl, rfl, by simp, fun c _ hc => hs.2 c hc⟩⟩
  simp [Instr.mapUpdate, run_underlying ht, MapKept.run_getObj_map hb, hc, MapKept.run_findKey hkt hj, MapKept.run_setObj_map _ hb, Result.andThen]
theorem run_find (ht : P.underlying t = some (.map kt et)) (hkt : P.underlying kt = some (.int .i64)) (hz : (zeroValue et).run P w = .ok (.string ByteArray.empty) w) (hT : Tab w r l) :
    (Instr.lookup t (.map (some r)) (.int .i64 n) false).run P w = .ok (.string (((l.find? fun e => n == e.1).map (·.2)).getD ByteArray.empty)) w := by
  obtain ⟨es, clock, hb, he⟩ := hT
  obtain ⟨j, hj⟩ := findNow_tab n es.toList l 0 he
  have hc : (Instr.checkKey es.isEmpty 10000 kt (.int .i64 n)).run P w = .ok () w := MapKept.run_checkKey (k := .int .i64 n) hkt (by simp [MapKept.IsKey]) _ 9999
  cases hfi : l.find? (fun e => n == e.1) with
  | none =>
    rw [hfi] at hj
    simp [Instr.lookup, run_underlying ht, MapKept.run_getObj_map hb, hc, MapKept.run_findKey hkt hj, Result.andThen, hz]
  | some e =>
    rw [hfi] at hj
    simp [Instr.lookup, run_underlying ht, MapKept.run_getObj_map hb, hc, MapKept.run_findKey hkt hj, Result.andThen]
theorem upon_insert {b : ByteArray} {o : Oper} {a : Act} {K : Act → World → Prop} {Q : Exit → Act → World → Prop} {f : Unit → World → Result Next} (ht : P.underlying t = some (.map kt et)) (hkt : P.underlying kt = some (.int .i64)) (hT : Tab w r l) (hf : l.find? (fun e => n == e.1) = none)
    (h : ∀ w', Tab w' r (l ++ [(n, b)]) → Ext w w' (fun b => b = r) → Oper.upon P o a K Q (f () w')) : Oper.upon P o a K Q (((Instr.mapUpdate t (.map (some r)) (.int .i64 n) (.string b)).run P w).andThen f) := by
  obtain ⟨w', h1, h2, h3⟩ := run_insert (b := b) ht hkt hT hf
  rw [h1]
  exact h w' h2 h3
theorem upon_find {o : Oper} {a : Act} {K : Act → World → Prop} {Q : Exit → Act → World → Prop} {f : Value → World → Result Next} (ht : P.underlying t = some (.map kt et)) (hkt : P.underlying kt = some (.int .i64)) (hz : (zeroValue et).run P w = .ok (.string ByteArray.empty) w) (hT : Tab w r l)
    (h : Oper.upon P o a K Q (f (.string (((l.find? fun e => n == e.1).map (·.2)).getD ByteArray.empty)) w)) : Oper.upon P o a K Q (((Instr.lookup t (.map (some r)) (.int .i64 n) false).run P w).andThen f) := by
  rw [run_find ht hkt hz hT]
  exact h
end
theorem FnOK.ofWalk {P : Program} {f : FuncId} {fn : Func} (hf : P.funcs[f]? = some fn) (hb : fn.body.isSome = true) (hname : (fn.name == "runtime.NumGoroutine") = false) {n : Int} {b : ByteArray}
    (h : ∀ w : World, Calls P f #[.int .i64 n] w fun e w' => e = .returned (.string b) ∧ Below w.heap.size w w') : FnOK P f [.one (.d (.sc (.int .i64 n)))] (fun ra _ => ra = [.one (.d (.sc (.string b)))]) := by
  refine ⟨⟨fn, hf, hb, hname⟩, fun w S Fs vs hs hv _ _ _ hF => ?_⟩
  have hs1 : vs.size = 1 := hs
  have hp : Pers w S (.sc (.int .i64 n)) vs[0] := hv 0 _ vs[0] rfl (Array.getElem?_eq_getElem (by omega))
  have key : ∀ {x : DV} {u : Value}, Pers w S x u → x = .sc (.int .i64 n) → u = .int .i64 n := by
    intro x u hp hx
    cases hp with
    | sc _ _ => cases hx; rfl
    | emp _ _ _ => cases hx
    | sl _ _ _ _ _ _ _ _ _ _ _ _ => cases hx
  have hvs : vs = #[.int .i64 n] := by
    apply Array.ext
    · simpa using hs1
    · intro i h1 h2
      have : i = 0 := by omega
      subst this
      exact key hp rfl
  rw [hvs]
  refine (h w).mono fun e w' h => ?_
  obtain ⟨rfl, hbel⟩ := h
  have hno : ∀ q b, ¬ Fs q b := by
    intro q b hq
    rcases hF q b hq with ⟨g, dp, x, hg | ⟨cs, hg⟩⟩
    all_goals
      simp only [gaAt] at hg
      cases hq64 : q / 64 with
      | zero =>
        rw [hq64] at hg
        simp [GA.at] at hg
      | succ k => rw [hq64] at hg; simp at hg
  refine ⟨.string b, [.one (.d (.sc (.string b)))], ⟨fun _ => .sl 0 [], fun _ => []⟩, fun _ _ => False, rfl, rfl, ⟨hbel.os, hbel.tape, hbel.output, hbel.size, fun k hk _ => hbel.block k hk⟩, ⟨by simp, by simp, by simp⟩, ⟨#[.string b], rfl, rfl, fun t a u ha hu => ?_⟩, fun t k g v p u hg hv hp hu => ?_⟩
  · cases t with
    | zero => simp at ha hu; subst ha; subst hu; exact .sc _ rfl
    | succ t => simp at ha
  · cases t with
    | zero =>
      simp at hg; subst hg
      simp only [GA.at] at hp
      split at hp
      · simp at hp; subst hp; trivial
      · simp at hp
    | succ t => simp at hg
end Hearth

/- Bytes compared by an entry of the model's own. -/
namespace Hearth
open Go Go.RowKit
def Rd (P : Program) (w : World) (v : Value) (l : List UInt8) : Prop := (Extern.Bytes.bytesOf v).run P w = .ok ⟨l.toArray⟩ w
theorem run_ldB {P : Program} (w : World) : ∀ (l : List UInt8) (a : Addr) (acc : ByteArray), (∀ j x, l[j]? = some x → w.cell? (a.add j) = some (.int .u8 x.toNat)) →
    (Extern.Bytes.loadBytes a l.length acc).run P w = .ok ⟨acc.data ++ l.toArray⟩ w
  | [], a, acc, _ => by simp [Extern.Bytes.loadBytes]
  | x :: l, a, acc, h => by
    have h0 : w.cell? a = some (.int .u8 x.toNat) := by
      have := h 0 x rfl
      simpa [Addr.add] using this
    have ih := run_ldB (P := P) w l (a.add 1) (acc.push x) (fun j y hy => by
      have := h (j + 1) y (by simpa using hy)
      have e : (a.add 1).add j = a.add (j + 1) := by
        unfold Addr.add
        by_cases hj : j = 0
        · subst hj; simp
        · simp [hj]; omega
      rw [e]; exact this)
    have hx : ((x.toNat : Int).toNat).toUInt8 = x := by simp
    simp only [List.length_cons, Extern.Bytes.loadBytes, Sem.run_bind, run_load, h0, Result.andThen, hx]
    rw [ih]
    congr 1
    apply ByteArray.ext
    simp [ByteArray.push]
theorem Rd.of {P : Program} {w : World} {S : Nat → Prop} {l : List UInt8} {v : Value} (hv : Pers w S (encB l) v) : Rd P w v l := by
  have hlen : (encB l).len = l.length := by simp [encB, DV.len]
  obtain ⟨A, c, rfl, _⟩ := hv.slice rfl
  rw [hlen]
  by_cases hl0 : l = []
  · subst hl0
    cases A <;> rfl
  · have hpos : 0 < l.length := by cases l <;> simp_all
    obtain ⟨_, b, off, rfl, _⟩ := hv.rowAt (i := 0) rfl (by rw [hlen]; exact hpos)
    unfold Rd
    simp only [Extern.Bytes.bytesOf]
    rw [run_ldB]
    · simp [ByteArray.empty, ByteArray.emptyWithCapacity] <;> rfl
    · intro j x hj
      have hi : j < l.length := (List.getElem?_eq_some_iff.1 hj).1
      have hx : l[j] = x := (List.getElem?_eq_some_iff.1 hj).2
      obtain ⟨_, b', off', hA, _, _, hc⟩ := hv.rowAt (i := j) rfl (by rw [hlen]; exact hi)
      simp at hA
      obtain ⟨rfl, rfl⟩ := hA
      have hrow : (encB l).row j = [.sc (.int .u8 (l[j]).toNat)] := by
        unfold DV.row encB DV.rows
        rw [List.getD_eq_getElem?_getD, List.getElem?_map, List.getElem?_eq_getElem hi]
        rfl
      obtain ⟨u, h1, h2⟩ := hc 0 (.sc (.int .u8 (l[j]).toNat)) (by rw [hrow]; rfl)
      simp [encB, DV.esz] at h1
      have ha : (⟨b, off, none⟩ : Addr).add j = ⟨b, off + j, none⟩ := by
        unfold Addr.add
        by_cases hj0 : j = 0 <;> simp [hj0]
      rw [ha, h1, Pers.scEq h2, hx]
end Hearth

/- More of the program's records, as data: slots, caches, leases, houses, wants, messages, transactions. -/
namespace Hearth
open Go
section
variable {α : Type}
def encL (sz : Nat) (f : α → List DV) (l : List α) : DV := .sl sz (l.map f)
theorem len_encL (sz : Nat) (f : α → List DV) (l : List α) : (encL sz f l).len = l.length := by simp [encL, DV.len]
theorem row_encL (sz : Nat) (f : α → List DV) (l : List α) (i : Nat) (h : i < l.length) : (encL sz f l).row i = f l[i] := by
  unfold DV.row encL DV.rows
  rw [List.getD_eq_getElem?_getD, List.getElem?_map, List.getElem?_eq_getElem h]
  rfl
theorem at_encL (sz : Nat) (f : α → List DV) (l : List α) (i j : Nat) (h : i < l.length) : (encL sz f l).at i j = (f l[i]).getD j (.sl 0 []) := by
  have := row_encL sz f l i h
  unfold DV.row at this
  unfold DV.at
  rw [this]
theorem setCell_encL (sz : Nat) (f : α → List DV) (l : List α) (i j : Nat) (r' : α) (d : DV) (h : i < l.length) (hr : (f l[i]).set j d = f r') : (encL sz f l).setCell i j d = encL sz f (l.set i r') := by
  have := row_encL sz f l i h
  unfold DV.row at this
  unfold DV.setCell
  rw [this, hr]
  simp [encL, DV.rows, DV.esz, List.map_set]
theorem setRow_encL (sz : Nat) (f : α → List DV) (l : List α) (i off : Nat) (r' : α) (ds : List DV) (h : i < l.length) (hr : (f l[i]).take off ++ ds ++ (f l[i]).drop (off + ds.length) = f r') : setRow (encL sz f l) i off ds = encL sz f (l.set i r') := by
  have := row_encL sz f l i h
  unfold setRow
  rw [this, hr]
  simp [encL, DV.rows, DV.esz, List.map_set]
theorem row_encLS (sz : Nat) (f : α → List DV) (l : List α) (i : Nat) (r : α) (h : i < l.length) : (encL sz f (l.set i r)).row i = f r := by
  rw [row_encL sz f _ i (by simpa using h)]; simp
theorem at_encLS (sz : Nat) (f : α → List DV) (l : List α) (i j : Nat) (r : α) (h : i < l.length) : (encL sz f (l.set i r)).at i j = (f r).getD j (.sl 0 []) := by
  rw [at_encL sz f _ i j (by simpa using h)]; simp
theorem setCell_encLS (sz : Nat) (f : α → List DV) (l : List α) (i j : Nat) (r r' : α) (d : DV) (h : i < l.length) (hr : (f r).set j d = f r') : (encL sz f (l.set i r)).setCell i j d = encL sz f (l.set i r') := by
  rw [setCell_encL sz f _ i j r' d (by simpa using h) (by simpa using hr)]; simp
theorem setRow_encLS (sz : Nat) (f : α → List DV) (l : List α) (i off : Nat) (r r' : α) (ds : List DV) (h : i < l.length) (hr : (f r).take off ++ ds ++ (f r).drop (off + ds.length) = f r') : setRow (encL sz f (l.set i r)) i off ds = encL sz f (l.set i r') := by
  rw [setRow_encL sz f _ i off r' ds (by simpa using h) (by simpa using hr)]; simp
def cntL (c : α → Nat) : List α → Nat
  | [] => 0
  | r :: l => c r + cntL c l
def markL (c : α → Nat) (m : α → Int → α) : List α → Int → List α
  | [], _ => []
  | r :: l, k => m r k :: markL c m l (k + c r)
variable (c : α → Nat) (m : α → Int → α)
@[simp] theorem cntL_nil : cntL c [] = 0 := rfl
theorem markL_len : ∀ (l : List α) (k : Int), (markL c m l k).length = l.length
  | [], _ => rfl
  | _ :: l, k => by simp [markL, markL_len l]
theorem cntL_append : ∀ (l l' : List α), cntL c (l ++ l') = cntL c l + cntL c l'
  | [], _ => by simp [cntL]
  | r :: l, l' => by simp only [List.cons_append, cntL, cntL_append l l']; omega
theorem markL_append : ∀ (l : List α) (r : α) (k : Int), markL c m (l ++ [r]) k = markL c m l k ++ [m r (k + cntL c l)]
  | [], r, k => by simp [markL, cntL]
  | x :: l, r, k => by
    simp only [List.cons_append, markL, markL_append l r, cntL]
    rw [show k + ((c x + cntL c l : Nat) : Int) = k + c x + cntL c l by omega]
theorem cntL_take (l : List α) (i : Nat) (h : i < l.length) : cntL c (l.take (i + 1)) = cntL c (l.take i) + c l[i] := by
  rw [← List.take_append_getElem h, cntL_append]; simp [cntL]
theorem cntL_le (l : List α) (i : Nat) : cntL c (l.take i) ≤ cntL c l := by
  have := congrArg (cntL c) (List.take_append_drop i l)
  rw [cntL_append] at this; omega
theorem cntL_mem {l : List α} {r : α} (h : r ∈ l) : c r ≤ cntL c l := by
  induction l with
  | nil => cases h
  | cons x l ih =>
    simp only [cntL]
    rcases List.mem_cons.1 h with rfl | h
    · omega
    · have := ih h; omega
theorem set_selfL (l : List α) (i : Nat) (h : i < l.length) : l.set i l[i] = l := by simp
end
structure Slot where
  name : List (List UInt8)
  ty : Int
  kind : Int
  rrs : List Rr
  rank : Int
  til : Int
  used : Int
  deriving DecidableEq
def Slot.cells (s : Slot) : List DV := [encBB s.name, .sc (.int .i64 s.ty), .sc (.int .i64 s.kind), encR s.rrs, .sc (.int .i64 s.rank), .sc (.int .i64 s.til), .sc (.int .i64 s.used)]
abbrev encS (l : List Slot) : DV := encL 7 Slot.cells l
structure SmallS (s : Slot) : Prop where
  n : SmallBB s.name
  r : SmallRs s.rrs
structure SmallSs (l : List Slot) : Prop where
  len : l.length ≤ 4194304
  mem : ∀ s ∈ l, SmallS s
def costS (s : Slot) : Nat := costBB s.name + (s.rrs.length + costRs s.rrs)
abbrev costSs (l : List Slot) : Nat := cntL costS l
theorem SmallS.ofCost {s : Slot} (h : costS s ≤ 1048576) : SmallS s := by unfold costS at h; exact ⟨.ofCost (by omega), .ofCost (by omega)⟩
theorem SmallSs.ofCost {l : List Slot} (h : l.length + costSs l ≤ 1048576) : SmallSs l :=
  ⟨by omega, fun s hs => .ofCost (by have := cntL_mem costS hs; unfold costSs at h; omega)⟩
structure Cache where
  now : Int
  turn : Int
  slots : List Slot
  deriving DecidableEq
def Cache.cells (c : Cache) : List DV := [.sc (.int .i64 c.now), .sc (.int .i64 c.turn), encS c.slots]
def setAt (l : List Rr) (i : Nat) : Bool := if h : i < l.length then decide (l[i].name = (l[0]'(by omega)).name) && decide (l[i].ty = (l[0]'(by omega)).ty) && decide (l[i].ttl = (l[0]'(by omega)).ttl) && prevB l i else true
def isSetR (l : List Rr) : Bool := decide (0 < l.length) && rrsOk l && (List.range l.length).all (setAt l)
def cmpS (a b : Slot) : Int := if cmpN a.name b.name = 0 then cmpI a.ty b.ty else cmpN a.name b.name
def hitOk (s : Slot) : Bool := if s.kind = 1 then isSetR s.rrs && decide ((s.rrs.getD 0 emptyR).name = s.name) && decide ((s.rrs.getD 0 emptyR).ty = s.ty) else decide (s.rrs.length = 0)
def slotOk (now turn : Int) (s : Slot) : Bool :=
  nameOk s.name && tyOk s.ty && decide (1 ≤ s.kind ∧ s.kind ≤ 3) && decide (0 ≤ s.rank ∧ s.rank ≤ 3) && decide (now + 1 ≤ s.til ∧ s.til ≤ now + 1000) && decide (1 ≤ s.used ∧ s.used ≤ turn) && hitOk s
def prevS (l : List Slot) (i : Nat) : Bool := if h : 0 < i ∧ i < l.length then decide (cmpS (l[i - 1]'(by omega)) (l[i]'(by omega)) < 0) else true
def sAt (l : List Slot) (i : Nat) : Bool := if h : i < l.length then prevS l i && !((l.take i).any fun o => o.used == l[i].used) else true
def cacheOk (c : Cache) : Bool := decide (0 ≤ c.now ∧ c.now ≤ 1000000) && decide (0 ≤ c.turn ∧ c.turn ≤ 1000000) && decide (c.slots.length ≤ 8) && c.slots.all (slotOk c.now c.turn) && (List.range c.slots.length).all (sAt c.slots)
def nmStep (out : List (List (List UInt8))) (s : Slot) : List (List (List UInt8)) := if out.getLast? = some s.name then out else out ++ [s.name]
def namesS (l : List Slot) : List (List (List UInt8)) := l.foldl nmStep []
theorem nmStep_len (out : List (List (List UInt8))) (s : Slot) : (nmStep out s).length ≤ out.length + 1 := by
  unfold nmStep; split <;> simp
theorem namesS_len (l : List Slot) : (namesS l).length ≤ l.length := by
  have key : ∀ (l : List Slot) (out : List (List (List UInt8))), (l.foldl nmStep out).length ≤ out.length + l.length := by
    intro l
    induction l with
    | nil => intro out; simp
    | cons s l ih => intro out; have := ih (nmStep out s); have := nmStep_len out s; simp only [List.foldl_cons, List.length_cons]; omega
  have := key l []
  simpa [namesS] using this
theorem namesS_mem (l : List Slot) : ∀ n ∈ namesS l, ∃ s ∈ l, s.name = n := by
  have key : ∀ (l : List Slot) (out : List (List (List UInt8))), ∀ n ∈ l.foldl nmStep out, n ∈ out ∨ ∃ s ∈ l, s.name = n := by
    intro l
    induction l with
    | nil => intro out n hn; exact .inl hn
    | cons s l ih =>
      intro out n hn
      rcases ih _ n hn with h | ⟨s', h1, h2⟩
      · unfold nmStep at h
        split at h
        · exact .inl h
        · rcases List.mem_append.1 h with h | h
          · exact .inl h
          · simp at h; exact .inr ⟨s, List.mem_cons_self .., h.symm⟩
      · exact .inr ⟨s', List.mem_cons_of_mem _ h1, h2⟩
  intro n hn
  rcases key l [] n hn with h | h
  · cases h
  · exact h
def namesN (c : Cache) : List (List (List UInt8)) := if cacheOk c then namesS c.slots else []
structure SmallNs (l : List (List (List UInt8))) : Prop where
  len : l.length ≤ 4194304
  mem : ∀ n ∈ l, SmallBB n
theorem SmallNs.names {c : Cache} (h : SmallSs c.slots) : SmallNs (namesN c) := by
  unfold namesN
  split
  · refine ⟨Nat.le_trans (namesS_len _) h.len, fun n hn => ?_⟩
    obtain ⟨s, h1, rfl⟩ := namesS_mem _ n hn
    exact (h.mem s h1).n
  · exact ⟨Nat.zero_le _, nofun⟩
theorem SmallSs.filter {l : List Slot} (h : SmallSs l) (f : Slot → Bool) : SmallSs (l.filter f) := ⟨Nat.le_trans (List.length_filter_le _ _) h.len, fun r hr => h.mem r (List.mem_filter.1 hr).1⟩
theorem SmallSs.nil : SmallSs [] := ⟨Nat.zero_le _, nofun⟩
structure Lease where
  ip : Int
  client : List UInt8
  host : List UInt8
  til : Int
  won : Bool
  deriving DecidableEq
def Lease.cells (l : Lease) : List DV := [.sc (.int .i64 l.ip), encB l.client, encB l.host, .sc (.int .i64 l.til), .sc (.bool l.won)]
abbrev encE (l : List Lease) : DV := encL 5 Lease.cells l
structure House where
  now : Int
  zone : Zone
  rev : Zone
  leases : List Lease
  deriving DecidableEq
def House.cells (h : House) : List DV := [.sc (.int .i64 h.now), encBB h.zone.origin, encR h.zone.rrs, encBB h.rev.origin, encR h.rev.rrs, encE h.leases]
section
variable {P : Program} {k : List It} {Q : Ex → St → Prop} {s : St} {d : Option Nat} {q : Bool} {r : T} {oi : Nat} {tags : List Nat}
end
def endT (t : Task) (c : Int) : Task := { t with state := 1, code := c, answers := if c ≠ 0 ∧ c ≠ 3 then [] else t.answers }
def sentT (t : Task) : Task := if t.sends + 1 ≥ 12 then endT { t with sends := t.sends + 1 } 2 else { t with sends := t.sends + 1 }
def nextT (t : Task) : Task := { t with turn := (t.turn + 1).tmod t.servers.length }
def lostT (t : Task) : Task := nextT (sentT t)
theorem SmallT.sent {t : Task} (h : SmallT t) : SmallT (sentT t) := by
  unfold sentT endT
  split
  · exact ⟨h.f, h.n, h.z, h.h, h.s, .nil⟩
  · exact ⟨h.f, h.n, h.z, h.h, h.s, h.a⟩
theorem SmallT.next {t : Task} (h : SmallT t) : SmallT (nextT t) := ⟨h.f, h.n, h.z, h.h, h.s, h.a⟩
theorem SmallT.lost {t : Task} (h : SmallT t) : SmallT (lostT t) := h.sent.next
end Hearth

/- Draws: what they tell is of a kind; names that are read. -/
namespace Hearth
open Go
section
variable {P : Program} {k : List It} {Q : Ex → St → Prop} {s : St} {r : T} {d : Option Nat} {q : Bool} {oi : Nat} {tags : List Nat}
theorem kRem {x y : X} {a b : Int} (hx : s.ev x = .i a) (hy : s.ev y = .i b) (hb : b ≠ 0) (h : kont P (.t r tags :: k) Q .normal (s.put d (.i (a.tmod b)))) :
    kont P (.t (.op oi [] d none q (.bin .rem x y) r) tags :: k) Q .normal s :=
  kBin hx hy (by simp only [evBin, if_true, if_neg hb]) h
end
theorem nameOk_len {n : List (List UInt8)} (h : nameOk n = true) : n.length ≤ 6 := by
  unfold nameOk at h; simp at h; omega
theorem flat_mul {n : List (List UInt8)} {m : Nat} (h : ∀ b ∈ n, b.length ≤ m) : n.flatten.length ≤ n.length * m := by
  induction n with
  | nil => simp
  | cons x n ih =>
    have h1 := h x (List.mem_cons_self ..)
    have h2 := ih fun b hb => h b (List.mem_cons_of_mem _ hb)
    simp only [List.flatten_cons, List.length_append, List.length_cons, Nat.add_mul]
    omega
theorem nameOk_mem {n : List (List UInt8)} (h : nameOk n = true) : ∀ b ∈ n, 1 ≤ b.length ∧ b.length ≤ 15 := by
  intro b hb
  unfold nameOk at h
  simp only [Bool.and_eq_true, decide_eq_true_eq] at h
  have := List.all_eq_true.1 h.2 b hb
  unfold labelOk at this
  simp only [Bool.and_eq_true, decide_eq_true_eq] at this
  omega
theorem nameOk_flat {n : List (List UInt8)} (h : nameOk n = true) : n.flatten.length ≤ 90 := by
  have h6 := nameOk_len h
  have := flat_mul (m := 15) fun b hb => (nameOk_mem h b hb).2
  have : n.length * 15 ≤ 6 * 15 := Nat.mul_le_mul_right _ h6
  omega
theorem SmallBB.ok {n : List (List UInt8)} (h : nameOk n = true) : SmallBB n := by
  have h6 := nameOk_len h
  have := nameOk_flat h
  exact ⟨by omega, fun b hb => by have := nameOk_mem h b hb; omega, by omega⟩
end Hearth
namespace Hearth
open Go
end Hearth
namespace Hearth
open Go
end Hearth
namespace Hearth
theorem SmallBB.bent {l : List (List UInt8)} (h : l.length ≤ 7 ∧ ∀ b ∈ l, b.length ≤ 64) : SmallBB l := by
  have := flat_mul (m := 64) h.2
  have : l.length * 64 ≤ 7 * 64 := Nat.mul_le_mul_right _ h.1
  exact ⟨by omega, fun b hb => by have := h.2 b hb; omega, by omega⟩
end Hearth
namespace Hearth
structure drawnR (r : Rr) : Prop where
  n : nameOk r.name = true
  t : nameOk r.to = true
  x : r.text.length ≤ 64
  m : r.nums.length ≤ 64
end Hearth
namespace Hearth
theorem drawnR.small {r : Rr} (h : drawnR r) : SmallR r := ⟨.ok h.n, .ok h.t, by have := h.x; omega, by have := h.m; omega⟩
end Hearth
namespace Hearth
end Hearth
namespace Hearth
section
open Go
variable {α : Type} {P : Program} {k : List It} {Q : Ex → St → Prop} {s : St} {d : Option Nat} {q : Bool} {r : T} {oi : Nat} {tags : List Nat} {f : α → List DV} {l : List α} {sz : Nat}
end
end Hearth

/- Bytes looked for, counted, split. -/
namespace Hearth
open Go Go.RowKit
section
variable {α : Type} {P : Program} {k : List It} {Q : Ex → St → Prop} {s : St} {d : Option Nat} {q : Bool} {r : T} {oi : Nat} {tags : List Nat} {f : α → List DV} {l : List α} {sz : Nat}
end
section
variable {α : Type} {P : Program} {k : List It} {Q : Ex → St → Prop} {s : St} {d : Option Nat} {q : Bool} {r : T} {oi : Nat} {tags : List Nat} {f : α → List DV} {l : List α} {sz : Nat}
variable {e bytes : Nat} {x y : X} {cx cy : AC} {dp dp' : Bool} {ids : List Nat} {id v ve : Nat} {vk : OK}
theorem kAppR2 {z1 z2 : α} (hx : s.ev x = .c cx) (hy : s.ev y = .c cy) (hb : s.base cx = some (dp, .sl sz (l.map f))) (hs : s.src cy = some (dp', .sl sz [f z1, f z2], ids)) (hid : cx.ownId e = id) (hob : s.ob id = ⟨v, ve, vk⟩)
    (h0 : Nat.ble 1 sz = true) (hh : (!s.hold.contains id && ids.all (fun j => !s.hold.contains j) && !ids.contains id && notMe id cy) = true)
    (hlen : (l.length + 2) * bytes ≤ 140737488355328 ∧ l.length + 2 ≤ 9223372036854775807)
    (h : kont P (.t r tags :: k) Q .normal (((s.kill ids).setOb id ⟨v + 1, 0, .arr (dp && dp') (.sl sz ((l ++ [z1, z2]).map f))⟩).put d (.c (.arr id (v + 1))))) : kont P (.t (.op oi [] d none q (.app e sz bytes x y) r) tags :: k) Q .normal s :=
  kAppR (l' := [z1, z2]) hx hy hb hs hid hob h0 hh hlen h
end
theorem src_ownB {s : St} {id ver ev : Nat} {dp : Bool} {b : List UInt8} (ho : s.ob id = ⟨ver, ev, .arr dp (encB b)⟩) : s.src (.arr id ver) = some (dp, encB b, []) := by
  simp [St.src, St.obj, ho, noNest_encB]
section
variable {P : Program} {k : List It} {Q : Ex → St → Prop} {s : St} {r : T} {d : Option Nat} {q : Bool} {oi : Nat} {tags : List Nat}
end
theorem FnOK.ofWalkGrow {P : Program} {f : FuncId} {fn : Func} {sz : Nat} (hf : P.funcs[f]? = some fn) (hb : fn.body.isSome = true) (hname : (fn.name == "runtime.NumGoroutine") = false) {n : Int}
    (h : ∀ (w : World) (v : Value), (v = .slice none 0 0 ∨ ∃ b cap cur e0, v = .slice (some ⟨b, 0, none⟩) 0 cap ∧ w.heap[b]? = some (.cells cur e0 (0, 0)) ∧ cap ≤ maxLen ∧ cur.size = cap * sz) → Calls P f #[v, .int .i64 n] w fun e w' =>
      (e = .returned v ∧ w' = w) ∨ (∃ cap cur e0, e = .returned (.slice (some ⟨w.heap.size, 0, none⟩) 0 cap) ∧ Below w.heap.size w w' ∧ w'.heap[w.heap.size]? = some (.cells cur e0 (0, 0)) ∧ cap ≤ maxLen ∧ cur.size = cap * sz)) :
    FnOK P f [.one (.arr true true (.sl sz [])), .one (.d (.sc (.int .i64 n)))] (fun ra _ => ra = [.one (.own true (.sl sz []))]) := by
  refine ⟨⟨fn, hf, hb, hname⟩, fun w S Fs vs hs hv _ hFl _ hF => ?_⟩
  have hs1 : vs.size = 2 := hs
  obtain ⟨_, hp0⟩ := (hv 0 _ vs[0] rfl (Array.getElem?_eq_getElem (by omega)))
  have hp1 := (hv 1 _ vs[1] rfl (Array.getElem?_eq_getElem (by omega)))
  have h1 : vs[1] = .int .i64 n := Pers.scEq hp1
  have hvs : vs = #[vs[0], .int .i64 n] := by
    apply Array.ext
    · simpa using hs1
    · intro i h1' h2'
      match i with
      | 0 => rfl
      | 1 => exact h1
      | i + 2 => omega
  have htop : vs[0] = .slice none 0 0 ∨ ∃ b cap cur e0, vs[0] = .slice (some ⟨b, 0, none⟩) 0 cap ∧ w.heap[b]? = some (.cells cur e0 (0, 0)) ∧ cap ≤ maxLen ∧ cur.size = cap * sz ∧ Fs (aid 0 0) b := by
    rcases hp0 with ⟨_, e⟩ | ⟨b, cap, cur, e0, us, Fs', e1, e2, e3, e4, e5, e6, _⟩
    · exact .inl e
    · exact .inr ⟨b, cap, cur, e0, e1, e2, e5, e6, e3⟩
  have main := h w vs[0] (htop.imp id fun ⟨b, cap, cur, e0, e1, e2, e3, e4, _⟩ => ⟨b, cap, cur, e0, e1, e2, e3, e4⟩)
  rw [hvs]
  have args : ∀ (w' : World) (G : Nat → Nat → Prop) (os : Outs) (t k : Nat) (g : GA) (v : Value) (p : PA) (u : Value), ([.one (.arr true true (.sl sz [])), .one (.d (.sc (.int .i64 n)))] : List GA)[t]? = some g → (#[vs[0], Value.int .i64 n] : Array Value)[t]? = some v → g.at k = some p →
      (match g with | .one _ => u = v | .agg _ => ∃ us : Array Value, v = .agg us ∧ us[k]? = some u) →
        match p with
        | .arr false dp x => (os.a (aid t k)).isSl = true ∧ (os.a (aid t k)).esz = x.esz ∧ Top w' (fun b => b < w'.heap.size ∧ (S b ∨ w.heap.size ≤ b ∨ GivenTo [.one (.arr true true (.sl sz [])), .one (.d (.sc (.int .i64 n)))] Fs b) ∧ ∀ i, ¬ G i b) dp x.esz (os.a (aid t k)).rows u (Fs (aid t k))
        | .box cs => PAr P w' (fun b => b < w'.heap.size ∧ (S b ∨ w.heap.size ≤ b ∨ GivenTo [.one (.arr true true (.sl sz [])), .one (.d (.sc (.int .i64 n)))] Fs b) ∧ ∀ i, ¬ G i b) (fun _ => False) (.box (os.b (aid t k))) u (Fs (aid t k)) ∧ (os.b (aid t k)).length = cs.length
        | _ => True := by
    intro w' G os t k g v p u hg _ hp _
    match t with
    | 0 =>
      simp at hg; subst hg
      simp only [GA.at] at hp
      split at hp
      · simp at hp; subst hp; trivial
      · simp at hp
    | 1 =>
      simp at hg; subst hg
      simp only [GA.at] at hp
      split at hp
      · simp at hp; subst hp; trivial
      · simp at hp
    | t + 2 => simp at hg
  refine main.mono fun e w' hm => ?_
  rcases hm with ⟨rfl, rfl⟩ | ⟨cap, cur, e0, rfl, hbel, g1, g2, g3⟩
  · rcases htop with e | ⟨b, cap, cur, e0, e1, e2, e3, e4, e5⟩
    · refine ⟨_, [.one (.own true (.sl sz []))], ⟨fun _ => .sl 0 [], fun _ => []⟩, fun _ _ => False, rfl, rfl, Ext.refl _ _, ⟨by simp, by simp, by simp⟩, ⟨#[vs[0]], rfl, rfl, fun t a u ha hu => ?_⟩, fun t k g v p u => args _ _ _ t k g v p u⟩
      match t with
      | 0 =>
        simp at ha hu; subst ha; subst hu
        exact ⟨rfl, .inl ⟨rfl, e⟩⟩
      | t + 1 => simp at ha
    · refine ⟨_, [.one (.own true (.sl sz []))], ⟨fun _ => .sl 0 [], fun _ => []⟩, fun i c => i = aid 0 0 ∧ c = b, rfl, rfl, Ext.refl _ _, ⟨fun i j c h1 h2 => h1.1.trans h2.1.symm, fun i c hc => by rw [hc.2]; exact (hFl _ _ e5).1, fun i c hc => .inr ⟨aid 0 0, true, .sl sz [], rfl, by rw [hc.2]; exact e5⟩⟩, ⟨#[vs[0]], rfl, rfl, fun t a u ha hu => ?_⟩, fun t k g v p u => args _ _ _ t k g v p u⟩
      match t with
      | 0 =>
        simp at ha hu; subst ha; subst hu
        exact ⟨rfl, .inr ⟨b, cap, cur, e0, fun _ _ => undef, fun _ _ _ => False, e1, e2, ⟨rfl, rfl⟩, Nat.zero_le _, e3, e4, by simp [DV.rows], by simp [DV.rows], by simp, by simp, by simp [DV.rows]⟩⟩
      | t + 1 => simp at ha
  · have hlt : w.heap.size < w'.heap.size := (Array.getElem?_eq_some_iff.1 g1).1
    refine ⟨_, [.one (.own true (.sl sz []))], ⟨fun _ => .sl 0 [], fun _ => []⟩, fun i c => i = aid 0 0 ∧ c = w.heap.size, rfl, rfl, ⟨hbel.os, hbel.tape, hbel.output, hbel.size, fun k hk _ => hbel.block k hk⟩, ⟨fun i j c h1 h2 => h1.1.trans h2.1.symm, fun i c hc => by rw [hc.2]; exact hlt, fun i c hc => .inl (by rw [hc.2]; exact Nat.le_refl _)⟩, ⟨#[.slice (some ⟨w.heap.size, 0, none⟩) 0 cap], rfl, rfl, fun t a u ha hu => ?_⟩, fun t k g v p u => args _ _ _ t k g v p u⟩
    match t with
    | 0 =>
      simp at ha hu; subst ha; subst hu
      exact ⟨rfl, .inr ⟨w.heap.size, cap, cur, e0, fun _ _ => undef, fun _ _ _ => False, rfl, g1, ⟨rfl, rfl⟩, Nat.zero_le _, g2, g3, by simp [DV.rows], by simp [DV.rows], by simp, by simp, by simp [DV.rows]⟩⟩
    | t + 1 => simp at ha
end Hearth

/- The abstract machine: a variable's row under another name. -/
namespace Hearth
open Go
end Hearth

/- The abstract machine: a variable's own row turned to data. -/
namespace Hearth
open Go
variable {P : Program} {N : Nat} {w0 : World} {own0 : Nat → Nat → Prop} {hdr0 : Nat → Value} {Fr : List ((Nat → Prop) × World)} {own : Nat → Nat → Prop} {hdr : Nat → Value} {s : St} {a : Act} {w : World}
end Hearth

/- Zones: a record that is added; zones as draws make them. -/
namespace Hearth
open Go
theorem rrOk_small {r : Rr} (h : rrOk r = true) : SmallR r := by
  unfold rrOk at h
  simp only [Bool.and_eq_true, decide_eq_true_eq] at h
  obtain ⟨⟨⟨h1, h2⟩, h3⟩, h4⟩ := h
  unfold dataOk at h4
  simp only [Bool.and_eq_true] at h4
  obtain ⟨⟨⟨k1, k2⟩, k3⟩, k4⟩ := h4
  refine ⟨.ok h1, ?_, ?_, ?_⟩
  · by_cases e : hasTo r.ty = true
    · rw [if_pos e] at k3; exact .ok k3
    · rw [if_neg e] at k3
      simp at k3
      rw [k3]; exact .nil
  · by_cases e : hasText r.ty = true
    · rw [if_pos e] at k4; simp at k4; omega
    · rw [if_neg e] at k4
      simp at k4
      rw [k4]; simp
  · by_cases e : r.ty = 6
    · rw [if_pos (by simpa using e)] at k1
      unfold numsOk at k1
      split at k1
      · omega
      · cases k1
    · rw [if_neg (by simpa using e)] at k1
      simp at k1
      rw [k1]; simp
theorem zoneOk_small {z : Zone} (h : zoneOk z = true) : SmallZ z := by
  have hm := zone_rrs h
  unfold zoneOk at h
  simp only [Bool.and_eq_true, decide_eq_true_eq] at h
  exact ⟨.ok h.1.1.1.1, ⟨by omega, fun r hr => rrOk_small (hm r hr)⟩⟩
end Hearth
namespace Hearth
end Hearth
namespace Hearth
theorem rdata_soa' {r : Rr} (h : rrOk r = true) (ht : r.ty = 6) : r.nums.length = 2 ∧ 0 ≤ r.nums.getD 0 0 ∧ r.nums.getD 0 0 < 4294967296 := by
  unfold rrOk at h
  simp only [Bool.and_eq_true, decide_eq_true_eq] at h
  obtain ⟨_, h4⟩ := h
  unfold dataOk at h4
  simp only [Bool.and_eq_true] at h4
  have k1 := h4.1.1.1
  rw [if_pos (by simpa using ht)] at k1
  unfold numsOk at k1
  split at k1
  · rename_i hl
    have hl' : r.nums.length = 2 := by omega
    refine ⟨hl', ?_⟩
    simp only [Bool.and_eq_true, decide_eq_true_eq] at k1
    have := k1.1
    unfold isW at this
    simp only [Bool.and_eq_true, decide_eq_true_eq] at this
    rw [List.getD_eq_getElem?_getD, List.getElem?_eq_getElem (by omega)]
    exact this
  · cases k1
end Hearth
namespace Hearth
end Hearth
namespace Hearth
open Go
section
variable {α : Type} {P : Program} {k : List It} {Q : Ex → St → Prop} {s : St} {d : Option Nat} {q : Bool} {r : T} {oi : Nat} {tags : List Nat} {f : α → List DV} {l : List α} {sz : Nat}
end
end Hearth

/- Records are in order: what orders are, and zones as lists in order. -/
namespace Hearth
open Go
structure Cmp {α : Type} (c : α → α → Int) : Prop where
  neg : ∀ a b, c b a = - c a b
  tr : ∀ a b d, c a b ≤ 0 → c b d ≤ 0 → c a d ≤ 0
namespace Cmp
variable {α β : Type} {c c1 c2 : α → α → Int}
theorem lt_le (h : Cmp c) {a b d : α} (h1 : c a b < 0) (h2 : c b d ≤ 0) : c a d < 0 := by
  have h3 := h.tr a b d (by omega) h2
  rcases Int.lt_or_le (c a d) 0 with h4 | h4
  · exact h4
  · have e := h.neg a d
    have := h.tr b d a h2 (by omega)
    have e2 := h.neg a b
    omega
theorem lt (h : Cmp c) {a b d : α} (h1 : c a b < 0) (h2 : c b d < 0) : c a d < 0 := h.lt_le h1 (by omega)
end Cmp
end Hearth
namespace Hearth
end Hearth
namespace Hearth
end Hearth
namespace Hearth
end Hearth
namespace Hearth
end Hearth

/- Messages: questions, records that are wanted, what they are written as. -/
namespace Hearth
open Go
structure Want where
  rr : Rr
  cls : Int
  bare : Bool
  deriving DecidableEq
def Want.cells (w : Want) : List DV := [encBB w.rr.name, .sc (.int .i64 w.rr.ty), .sc (.int .i64 w.rr.ttl), .sc (.int .i64 w.rr.addr), encBB w.rr.to, encB w.rr.text, encI w.rr.nums, .sc (.int .i64 w.cls), .sc (.bool w.bare)]
abbrev encW (l : List Want) : DV := encL 9 Want.cells l
structure SmallW (w : Want) : Prop where
  r : SmallR w.rr
structure SmallWs (l : List Want) : Prop where
  len : l.length ≤ 4194304
  mem : ∀ w ∈ l, SmallW w
structure BigW (w : Want) : Prop where
  r : BigR w.rr
structure BigWs (l : List Want) : Prop where
  len : (l.length : Int) ≤ 9223372036854775807
  mem : ∀ w ∈ l, BigW w
def costW (w : Want) : Nat := costR w.rr
abbrev costWs (l : List Want) : Nat := cntL costW l
theorem SmallWs.ofCost {l : List Want} (h : l.length + costWs l ≤ 1048576) : SmallWs l :=
  ⟨by omega, fun w hw => ⟨.ofCost (by have h1 := cntL_mem costW hw; unfold costWs at h; unfold costW at h1 h; omega)⟩⟩
def cntW (w : Want) : Nat := cntR w.rr + 2
def wK (r : Rr) (k : Int) : Int := k + (r.name.flatten.length : Int) + 1 + 1 + 1 + (r.to.flatten.length : Int) + (r.text.length : Int) + (r.nums.length : Int)
def markW (w : Want) (k : Int) : Want := ⟨⟨markss w.rr.name k, k + (w.rr.name.flatten.length : Int), k + (w.rr.name.flatten.length : Int) + 1, k + (w.rr.name.flatten.length : Int) + 1 + 1, markss w.rr.to (k + (w.rr.name.flatten.length : Int) + 1 + 1 + 1),
  marks w.rr.text.length (k + (w.rr.name.flatten.length : Int) + 1 + 1 + 1 + (w.rr.to.flatten.length : Int)), marksI w.rr.nums.length (k + (w.rr.name.flatten.length : Int) + 1 + 1 + 1 + (w.rr.to.flatten.length : Int) + (w.rr.text.length : Int))⟩, wK w.rr k, ((wK w.rr k + 1).tmod 3 == 0)⟩
theorem cntWs_cost : ∀ l : List Want, cntL cntW l ≤ costWs l + 5 * l.length
  | [] => by simp
  | w :: l => by have := cntR_le w.rr; have := cntWs_cost l; simp only [costWs, cntL, cntW, costW, List.length_cons] at *; omega
structure BigQs (l : List Qn) : Prop where
  len : (l.length : Int) ≤ 9223372036854775807
  mem : ∀ q ∈ l, BigBB q.name
def costQ (q : Qn) : Nat := costBB q.name
abbrev costQs (l : List Qn) : Nat := cntL costQ l
theorem SmallQs.ofCost {l : List Qn} (h : l.length + costQs l ≤ 1048576) : SmallQs l :=
  ⟨by omega, fun w hw => .ofCost (by have h1 := cntL_mem costQ hw; unfold costQs at h; unfold costQ at h1 h; omega)⟩
theorem cntQs_cost : ∀ l : List Qn, cntQs l ≤ costQs l + l.length
  | [] => by simp
  | q :: l => by have := cntBB_le q.name; have := cntQs_cost l; simp only [cntQs, costQs, cntL, cntQ1, costQ, List.length_cons] at *; unfold cntBB at *; omega
structure Msg where
  id : Int
  reply : Bool
  op : Int
  auth : Bool
  code : Int
  qs : List Qn
  an : List Rr
  au : List Rr
  mo : List Rr
  pr : List Want
  up : List Want
  deriving DecidableEq
def Msg.cells (m : Msg) : List DV := [.sc (.int .i64 m.id), .sc (.bool m.reply), .sc (.int .i64 m.op), .sc (.bool m.auth), .sc (.int .i64 m.code), encQ m.qs, encR m.an, encR m.au, encR m.mo, encW m.pr, encW m.up]
structure SmallM (m : Msg) : Prop where
  q : SmallQs m.qs
  a : SmallRs m.an
  b : SmallRs m.au
  c : SmallRs m.mo
  p : SmallWs m.pr
  u : SmallWs m.up
structure BigM (m : Msg) : Prop where
  q : BigQs m.qs
  a : BigRs m.an
  b : BigRs m.au
  c : BigRs m.mo
  p : BigWs m.pr
  u : BigWs m.up
def costM (m : Msg) : Nat := (m.qs.length + costQs m.qs) + (m.an.length + costRs m.an) + (m.au.length + costRs m.au) + (m.mo.length + costRs m.mo) + (m.pr.length + costWs m.pr) + (m.up.length + costWs m.up)
theorem SmallM.ofCost {m : Msg} (h : costM m ≤ 1048576) : SmallM m := by
  unfold costM at h
  exact ⟨.ofCost (by omega), .ofCost (by omega), .ofCost (by omega), .ofCost (by omega), .ofCost (by omega), .ofCost (by omega)⟩
def cntM (m : Msg) : Nat := cntQs m.qs + cntRs m.an + cntRs m.au + cntRs m.mo + cntL cntW m.pr + cntL cntW m.up
theorem cntM_cost (m : Msg) : cntM m ≤ 6 * costM m := by
  have := cntQs_cost m.qs
  have := cntRs_cost m.an
  have := cntRs_cost m.au
  have := cntRs_cost m.mo
  have := cntWs_cost m.pr
  have := cntWs_cost m.up
  unfold cntM costM
  omega
def markM (m : Msg) (k : Int) : Msg := { m with
  qs := markQs m.qs k
  an := markRs m.an (k + cntQs m.qs)
  au := markRs m.au (k + cntQs m.qs + cntRs m.an)
  mo := markRs m.mo (k + cntQs m.qs + cntRs m.an + cntRs m.au)
  pr := markL cntW markW m.pr (k + cntQs m.qs + cntRs m.an + cntRs m.au + cntRs m.mo)
  up := markL cntW markW m.up (k + cntQs m.qs + cntRs m.an + cntRs m.au + cntRs m.mo + cntL cntW m.pr) }
def wantOk (w : Want) : Bool :=
  if w.cls ≠ 1 ∧ w.cls ≠ 254 ∧ w.cls ≠ 255 then false
  else if w.bare then !(w.cls == 1) && nameOk w.rr.name && askedT w.rr.ty && w.rr.ttl == 0 && w.rr.addr == 0 && w.rr.to.isEmpty && w.rr.text.isEmpty && w.rr.nums.isEmpty
  else !(w.cls == 255) && rrOk w.rr && (w.cls == 1 || w.rr.ttl == 0)
def wantsOk (l : List Want) : Bool := decide ((l.length : Int) ≤ 12) && l.all wantOk
def msgMay (m : Msg) : Bool :=
  (decide (0 ≤ m.id) && decide (m.id ≤ 65535)) && (decide (0 ≤ m.code) && decide (m.code ≤ 10)) && (decide (m.qs.length = 1) && nameOk (m.qs.getD 0 ⟨[], 0⟩).name && askedT (m.qs.getD 0 ⟨[], 0⟩).ty) &&
  (rrsOk m.an && rrsOk m.au && rrsOk m.mo && wantsOk m.pr && wantsOk m.up) &&
  (if m.op = 0 then decide (m.pr.length + m.up.length = 0) else if m.op = 5 then (m.qs.getD 0 ⟨[], 0⟩).ty == 6 && decide (m.an.length + m.au.length + m.mo.length = 0) else false)
theorem wireN_small {n : List (List UInt8)} (h : nameOk n = true) : (wireN n).length ≤ 97 := by
  have h1 := nameOk_len h
  have h2 := nameOk_flat h
  rw [wireN_len]; omega
theorem rdata_small {r : Rr} (h : rrOk r = true) : (rdata r).length ≤ 200 := by
  by_cases h1 : r.ty = 1
  · rw [rdata_A h1]; simp [w4]
  · have hk := h
    unfold rrOk dataOk at hk
    simp only [Bool.and_eq_true] at hk
    obtain ⟨_, ⟨⟨_, _⟩, hto⟩, htx⟩ := hk
    by_cases h2 : hasTo r.ty = true
    · rw [rdata_to h1 h2, List.length_append, w4s_len]
      rw [if_pos h2] at hto
      have h3 := wireN_small hto
      by_cases h6 : r.ty = 6
      · have := (rdata_soa' h h6).1; omega
      · have := rdata_nm h h6; rw [this]; simp; omega
    · have h2' : hasTo r.ty = false := by simpa using h2
      rw [rdata_text h1 h2']
      split at htx
      · simp at htx ⊢; omega
      · simp at htx; rw [htx]; simp
def rrB (r : Rr) (c : Int) : List UInt8 := wireN r.name ++ w2 r.ty ++ w2 c ++ w4 r.ttl ++ w2 ((rdata r).length : Int) ++ rdata r
def wantB (w : Want) : List UInt8 := if w.bare then wireN w.rr.name ++ w2 w.rr.ty ++ w2 w.cls ++ w4 0 ++ w2 0 else rrB w.rr w.cls
theorem w2_len (n : Int) : (w2 n).length = 2 := rfl
theorem rrB_len (r : Rr) (c : Int) : (rrB r c).length = (wireN r.name).length + 10 + (rdata r).length := by
  simp only [rrB, List.length_append, w2_len, w4_len]
theorem rrB_small {r : Rr} (h : rrOk r = true) (c : Int) : (rrB r c).length ≤ 307 := by
  have h1 := rdata_small h
  have h2 : nameOk r.name = true := by unfold rrOk at h; simp only [Bool.and_eq_true] at h; exact h.1.1.1
  have h3 := wireN_small h2
  rw [rrB_len]; omega
theorem want_bare {w : Want} (h : wantOk w = true) (hb : w.bare = true) : nameOk w.rr.name = true ∧ askedT w.rr.ty = true := by
  unfold wantOk at h
  split at h
  · cases h
  · try rw [if_pos hb] at h
    simp only [Bool.and_eq_true] at h
    exact ⟨h.1.1.1.1.1.1.2, h.1.1.1.1.1.2⟩
  all_goals simp_all
theorem want_rr {w : Want} (h : wantOk w = true) (hb : w.bare = false) : rrOk w.rr = true := by
  unfold wantOk at h
  split at h
  · cases h
  · rw [if_neg (by simp [hb])] at h
    simp only [Bool.and_eq_true] at h
    exact h.1.2
theorem want_cls {w : Want} (h : wantOk w = true) : w.cls = 1 ∨ w.cls = 254 ∨ w.cls = 255 := by
  unfold wantOk at h
  split at h
  · cases h
  · omega
theorem wantB_small {w : Want} (h : wantOk w = true) : (wantB w).length ≤ 307 := by
  unfold wantB
  split
  · rename_i hb
    have h3 := wireN_small (want_bare h hb).1
    simp only [List.length_append, w2_len, w4_len]; omega
  · rename_i hb
    exact rrB_small (want_rr h (by simpa using hb)) _
theorem tyOk_rng {t : Int} (h : tyOk t = true) : 0 ≤ t ∧ t ≤ 49 := by
  unfold tyOk at h; simp at h; omega
theorem askedT_rng {t : Int} (h : askedT t = true) : 0 ≤ t ∧ t ≤ 255 := by
  unfold askedT at h
  simp only [Bool.or_eq_true] at h
  rcases h with h | h
  · have := tyOk_rng h; omega
  · simp at h; omega
theorem rrOk_ty {r : Rr} (h : rrOk r = true) : 0 ≤ r.ty ∧ r.ty ≤ 49 ∧ 0 ≤ r.ttl ∧ r.ttl ≤ 100000 ∧ nameOk r.name = true := by
  unfold rrOk at h
  simp only [Bool.and_eq_true, decide_eq_true_eq] at h
  have := tyOk_rng h.1.1.2
  exact ⟨this.1, this.2, h.1.2.1, h.1.2.2, h.1.1.1⟩
def flagsM (m : Msg) : Int := m.op * 2048 + m.code + (if m.reply then 32768 else 0) + (if m.auth then 1024 else 0)
def headB (m : Msg) (f a b : Int) : List UInt8 := w2 m.id ++ w2 f ++ w2 1 ++ w2 a ++ w2 b ++ w2 m.mo.length ++ wireN (m.qs.getD 0 ⟨[], 0⟩).name ++ w2 (m.qs.getD 0 ⟨[], 0⟩).ty ++ w2 1
def msgB (m : Msg) (f a b : Int) : List UInt8 := headB m f a b ++ m.pr.flatMap wantB ++ m.up.flatMap wantB ++ (m.an ++ m.au ++ m.mo).flatMap fun r => rrB r 1
def msgLen (m : Msg) : Nat := (msgB m 0 0 0).length
theorem headB_len (m : Msg) (f a b : Int) : (headB m f a b).length = 16 + (wireN (m.qs.getD 0 ⟨[], 0⟩).name).length := by
  simp only [headB, List.length_append, w2_len]; omega
theorem msgB_len (m : Msg) (f a b : Int) : (msgB m f a b).length = msgLen m := by
  unfold msgLen msgB
  simp only [List.length_append, headB_len]
def msgOk (m : Msg) : Bool := msgMay m && decide (msgLen m ≤ 512)
theorem flatMap_le {α β : Type} {f : α → List β} {k : Nat} : ∀ {l : List α}, (∀ x ∈ l, (f x).length ≤ k) → (l.flatMap f).length ≤ l.length * k
  | [], _ => by simp
  | x :: l, h => by
    have h1 := h x (List.mem_cons_self ..)
    have h2 := flatMap_le (f := f) (l := l) fun y hy => h y (List.mem_cons_of_mem _ hy)
    simp only [List.flatMap_cons, List.length_append, List.length_cons, Nat.add_mul]; omega
theorem flatMap_take_le {α β : Type} (f : α → List β) (l : List α) (i : Nat) : ((l.take i).flatMap f).length ≤ (l.flatMap f).length := by
  have := congrArg (fun x => (x.flatMap f).length) (List.take_append_drop i l)
  simp only [List.flatMap_append, List.length_append] at this
  omega
structure MayP (m : Msg) : Prop where
  id : 0 ≤ m.id ∧ m.id ≤ 65535
  cd : 0 ≤ m.code ∧ m.code ≤ 10
  q1 : m.qs.length = 1
  qn : nameOk (m.qs.getD 0 ⟨[], 0⟩).name = true
  qt : 0 ≤ (m.qs.getD 0 ⟨[], 0⟩).ty ∧ (m.qs.getD 0 ⟨[], 0⟩).ty ≤ 255
  an : m.an.length ≤ 12 ∧ ∀ r ∈ m.an, rrOk r = true
  au : m.au.length ≤ 12 ∧ ∀ r ∈ m.au, rrOk r = true
  mo : m.mo.length ≤ 12 ∧ ∀ r ∈ m.mo, rrOk r = true
  pr : m.pr.length ≤ 12 ∧ ∀ w ∈ m.pr, wantOk w = true
  up : m.up.length ≤ 12 ∧ ∀ w ∈ m.up, wantOk w = true
  op : m.op = 0 ∧ m.pr = [] ∧ m.up = [] ∨ m.op = 5 ∧ m.an = [] ∧ m.au = [] ∧ m.mo = []
theorem rrsOk_p {l : List Rr} (h : rrsOk l = true) : l.length ≤ 12 ∧ ∀ r ∈ l, rrOk r = true := by
  unfold rrsOk at h
  simp only [Bool.and_eq_true, decide_eq_true_eq] at h
  exact ⟨by omega, List.all_eq_true.1 h.2⟩
theorem wantsOk_p {l : List Want} (h : wantsOk l = true) : l.length ≤ 12 ∧ ∀ r ∈ l, wantOk r = true := by
  unfold wantsOk at h
  simp only [Bool.and_eq_true, decide_eq_true_eq] at h
  exact ⟨by omega, List.all_eq_true.1 h.2⟩
theorem MayP.of {m : Msg} (h : msgMay m = true) : MayP m := by
  unfold msgMay at h
  simp only [Bool.and_eq_true, decide_eq_true_eq] at h
  obtain ⟨⟨⟨⟨h1, h2⟩, ⟨h3, h4⟩, h5⟩, ⟨⟨⟨h6, h7⟩, h8⟩, h9⟩, h10⟩, h11⟩ := h
  refine ⟨h1, h2, h3, h4, askedT_rng h5, rrsOk_p h6, rrsOk_p h7, rrsOk_p h8, wantsOk_p h9, wantsOk_p h10, ?_⟩
  split at h11
  · rename_i e
    simp only [decide_eq_true_eq] at h11
    exact .inl ⟨e, List.eq_nil_of_length_eq_zero (by omega), List.eq_nil_of_length_eq_zero (by omega)⟩
  · split at h11
    · rename_i e
      simp only [Bool.and_eq_true, decide_eq_true_eq] at h11
      exact .inr ⟨e, List.eq_nil_of_length_eq_zero (by omega), List.eq_nil_of_length_eq_zero (by omega), List.eq_nil_of_length_eq_zero (by omega)⟩
    · cases h11
section
variable {P : Program} {k : List It} {Q : Ex → St → Prop} {s : St} {r : T} {d : Option Nat} {q : Bool} {oi : Nat} {tags : List Nat}
theorem kShl11 {x y : X} {a : Int} (hx : s.ev x = .vv (.int .i64 a)) (hy : s.ev y = .vv (.int .u64 11)) (hb : 0 ≤ a ∧ a ≤ 65535) (h : kont P (.t r tags :: k) Q .normal (s.put d (.i (a * 2048)))) :
    kont P (.t (.op oi [] d none q (.bin .shl x y) r) tags :: k) Q .normal s :=
  kBin (v := .int .i64 (a * 2048)) hx hy (by
    simp only [evBin]
    rw [if_neg (by decide), show ((2 : Int) ^ (min (11 : Int).toNat IntKind.i64.bits)) = 2048 by decide, wrap64 (by omega)]) h
end
theorem Sub.renSlot {s : St} (j id1 id2 : Nat) {v1 e1 v2 e2 : Nat} {k2 : OK} {dp : Bool} {x : DV} (hj : s.sl j = .c (.arr id1 v1)) (h1 : s.ob id1 = ⟨v1, e1, .arr dp x⟩) (h2 : s.ob id2 = ⟨v2, e2, k2⟩) (hne : (!(Nat.beq id2 id1) && !(Nat.beq id2 alien)) = true) :
    Sub s ⟨upd s.sl j (.c (.arr id2 (v2 + 1))), upd (upd s.ob id1 ⟨v1 + 1, 0, .dead⟩) id2 ⟨v2 + 1, 0, .arr dp x⟩, []⟩ := by
  simp only [Bool.and_eq_true, Bool.not_eq_true'] at hne
  obtain ⟨hne3, hal⟩ := hne
  have hne3 := Nat.ne_of_beq_eq_false hne3
  have hal := Nat.ne_of_beq_eq_false hal
  rintro P N w0 own0 hdr0 a w ⟨own, hdr, r⟩
  obtain ⟨a1, a2⟩ := r.arrAt (id := id1) (dp := dp) (x := x) (by rw [h1])
  have hal1 : id1 ≠ alien := r.ne_al (by rw [h1]; simp)
  have ht := r.tmps j
  rw [hj] at ht
  have hv : a.tmps.getD j undef = hdr id1 := ht.2 (by rw [h1])
  have own1 : ∀ c, own id1 c → c < w.heap.size := fun c hc => r.lt id1 c hc
  have h := (r.hold []).make (id := id2) (ids := [id1]) (k := .arr dp x) (F := own id1) (v := hdr id1) (w' := w) ⟨hal, by simpa using Ne.symm hal1⟩ (by simp) (by simp) (by simpa using hne3) (Ext.refl _ _)
    (fun c hc => ⟨own1 c hc, .inr ⟨id1, .inr (by simp), hc⟩⟩) (fun rc => by
    unfold RO
    rw [ob_new (by simpa using hne3)]
    refine ⟨a1, ?_⟩
    have e1 : hdrTo hdr id2 [id1] (hdr id1) id2 = hdr id1 := by simp [hdrTo]
    have e2 : ownTo own id2 [id1] (own id1) id2 = own id1 := by simp [ownTo]
    rw [e1, e2]
    refine a2.mono (fun h => h) (fun c hc => ⟨rfl, hc.1, fun i hi => ?_⟩) (fun c hc => ⟨rfl, hc⟩)
    simp only [ownTo] at hi
    split at hi
    · exact hc.2 id1 hi
    · split at hi
      · exact hi
      · exact hc.2 i hi)
  have hob0 : ((({ s with hold := [] } : St).kill [id1]).newOb id2 (.arr dp x)).ob = upd (upd s.ob id1 ⟨v1 + 1, 0, .dead⟩) id2 ⟨v2 + 1, 0, .arr dp x⟩ := by
    funext i
    simp only [St.newOb, St.setOb, St.kill, upd, List.mem_singleton]
    by_cases hi : i = id2
    · simp only [hi, if_true, if_neg hne3, h2]
    · simp only [if_neg hi]
      by_cases hi1 : i = id1
      · simp only [hi1, if_true, h1]
      · simp only [if_neg hi1]
  have hr := (h.1.same (d := j) (x := .c (.arr id2 (v2 + 1))) (by
    rw [hv]
    simp only [RS, RV1, RC]
    rw [hob0, upd_same]
    exact ⟨Nat.le_refl _, fun _ => by simp [hdrTo]⟩)).hold []
  have e : (({ ((({ s with hold := [] } : St).kill [id1]).newOb id2 (.arr dp x)).put (some j) (.c (.arr id2 (v2 + 1))) with hold := [] }) : St) = ⟨upd s.sl j (.c (.arr id2 (v2 + 1))), upd (upd s.ob id1 ⟨v1 + 1, 0, .dead⟩) id2 ⟨v2 + 1, 0, .arr dp x⟩, []⟩ := by
    rw [← hob0]
    rfl
  rw [← e]
  exact ⟨_, _, hr⟩
def replyOk (m : Msg) (c : Int) : Bool := msgOk m && (decide (0 ≤ c) && decide (c ≤ 10))
def replyM (m : Msg) (c : Int) : Msg := if replyOk m c then ⟨m.id, true, m.op, false, c, [m.qs.getD 0 ⟨[], 0⟩], [], [], [], [], []⟩ else ⟨0, false, 0, false, 0, [], [], [], [], [], []⟩
theorem msgOk_q {m : Msg} (h : msgOk m = true) : m.qs.length = 1 := by
  unfold msgOk at h
  simp only [Bool.and_eq_true] at h
  exact (MayP.of h.1).q1
def orI (a b : Int) : Int := Go.IntKind.i64.wrap (((BitVec.ofInt Go.IntKind.i64.bits a ||| BitVec.ofInt Go.IntKind.i64.bits b).toNat : Nat) : Int)
def flagsI (m : Msg) : Int := if m.auth then orI (if m.reply then orI (orI (m.op * 2048) m.code) 32768 else orI (m.op * 2048) m.code) 1024 else (if m.reply then orI (orI (m.op * 2048) m.code) 32768 else orI (m.op * 2048) m.code)
theorem flat2 {α β : Type} (f : α → List β) (a b : List α) : ([a, b].flatten).flatMap f = a.flatMap f ++ b.flatMap f := by simp
theorem flat3 {α β : Type} (f : α → List β) (a b c : List α) : ([a, b, c].flatten).flatMap f = (a ++ b ++ c).flatMap f := by simp
theorem flat_step {α β : Type} (f : α → List β) (L : List (List α)) (i : Nat) (h : i < L.length) : ((L.take (i + 1)).flatten).flatMap f = ((L.take i).flatten).flatMap f ++ L[i].flatMap f := by
  rw [← List.take_append_getElem h, List.flatten_append, List.flatMap_append]; simp
theorem flat_inner0 {α β : Type} (f : α → List β) (L : List (List α)) (i : Nat) : (((L.take i).flatten).flatMap f).length ≤ (L.flatten.flatMap f).length := by
  have := congrArg (fun x => (x.flatten.flatMap f).length) (List.take_append_drop i L)
  simp only [List.flatten_append, List.flatMap_append, List.length_append] at this
  omega
theorem flat_inner {α β : Type} (f : α → List β) (L : List (List α)) (i j : Nat) (h : i < L.length) : (((L.take i).flatten).flatMap f ++ (L[i].take j).flatMap f).length ≤ (L.flatten.flatMap f).length := by
  have h1 := flatMap_take_le f L[i] j
  have h2 := flat_step f L i h
  have h3 : ((L.take (i + 1)).flatten.flatMap f).length ≤ (L.flatten.flatMap f).length := by
    have := congrArg (fun x => (x.flatten.flatMap f).length) (List.take_append_drop (i + 1) L)
    simp only [List.flatten_append, List.flatMap_append, List.length_append] at this
    omega
  rw [h2, List.length_append] at h3
  rw [List.length_append]
  omega
end Hearth

/- Short names for a digest's parts. -/
namespace Hearth
def T.o (i d : Nat) (x : O) (r : T) : T := .op i [] (some d) none false x r
def X.i (n : Int) : X := .v (.int .i64 n)
theorem pr {p : Prop} (h : p := by first | assumption | omega | solve_by_elim [List.getElem_mem] | (simp only [szOut] at *; omega)) : p := h
theorem leb {m n : Nat} (h : Nat.ble m n = true := by exact rfl) : m ≤ n := Nat.le_of_ble_eq_true h
end Hearth

/- From a function's contract to a law's walk. -/
namespace Hearth
open Go Go.RowKit
inductive AS where
  | one (sh : Sh)
  | agg (l : List Sh)
def shDA (n : Nat) : AS → DA → Prop
  | .one sh, .one x => shOk n sh x
  | .agg l, .agg xs => xs.length = l.length ∧ ∀ (k : Nat) (sh : Sh) (x : DV), l[k]? = some sh → xs[k]? = some x → shOk n sh x
  | _, _ => False
def asOf (P : Program) (n : Nat) (t : TypeId) : Option AS :=
  match P.underlying t with
  | some (.struct _) => match cellsSh P n t with
    | some l => if l.length ≤ 64 then some (.agg l) else none
    | none => none
  | some (.array _ _) => none
  | _ => match cellsSh P n t with
    | some [sh] => some (.one sh)
    | _ => none
section
variable {H : Type} {enc : TypeId × Value → H} {P : Program} {w : World}
theorem cells_one {base : Nat} {t : TypeId} {v : Value} (h : Cell.okWide P w .any base t v) : v.cells.toList = [v] := by
  cases v <;> first | rfl | (exfalso; revert h; simp [Cell.okWide, Cell.ok]; try (split <;> simp_all))
theorem arg_da {n : Nat} {sp : AS} {t : TypeId} {v : Value} {d : DataW H} {ps : List MemPlace} {base : Nat} (ha : asOf P n t = some sp) (ho : Value.okWide P w .any base t v) (h : DataW.Trod enc P w 0 (fun _ => true) true t v d ps) :
    ∃ da, DAr w (All w) da v ∧ shDA n sp da := by
  obtain ⟨fuel, h⟩ := h
  unfold asOf at ha
  unfold Value.okWide at ho
  split at ha
  · rename_i fs ht
    simp only [ht] at ho
    obtain ⟨cs, rfl, hcs, _⟩ := ho
    split at ha
    · rename_i l hl
      split at ha
      · rename_i h64
        simp at ha; subst ha
        obtain ⟨g1, g2⟩ := trod_sh hl h
        have g1' : cs.size = l.length := by simpa [Value.cells] using g1
        have ch : ∀ k : Nat, ∃ y : DV, ∀ (u : Value) (sh : Sh), cs[k]? = some u → l[k]? = some sh → Pers w (All w) y u ∧ shOk n sh y := by
          intro k
          by_cases hk : k < l.length
          · obtain ⟨y, a1, a2⟩ := g2 k (cs[k]'(by omega)) l[k] (by simp [Value.cells, g1', hk]) (List.getElem?_eq_getElem hk)
            refine ⟨y, fun u sh b1 b2 => ?_⟩
            rw [Array.getElem?_eq_getElem (by omega)] at b1
            rw [List.getElem?_eq_getElem hk] at b2
            simp at b1 b2
            subst b1; subst b2
            exact ⟨a1, a2⟩
          · exact ⟨.sl 0 [], fun u sh _ b2 => by rw [List.getElem?_eq_none (by omega)] at b2; cases b2⟩
        have ⟨f, hf⟩ := Classical.axiomOfChoice ch
        refine ⟨.agg ((List.range l.length).map f), ⟨cs, rfl, ⟨by simp [g1'], by simpa using h64⟩, fun k x u hx hu => ?_⟩, by simp, fun k sh x hs hx => ?_⟩
        · simp only [List.getElem?_map, Option.map_eq_some_iff] at hx
          obtain ⟨k', hk, rfl⟩ := hx
          have hlt : k < l.length := by have := (List.getElem?_eq_some_iff.1 hk).1; simpa using this
          rw [List.getElem?_range hlt] at hk
          simp at hk; subst hk
          exact (hf k u _ hu (List.getElem?_eq_getElem hlt)).1
        · simp only [List.getElem?_map, Option.map_eq_some_iff] at hx
          obtain ⟨k', hk, rfl⟩ := hx
          have hlt : k < l.length := by have := (List.getElem?_eq_some_iff.1 hk).1; simpa using this
          rw [List.getElem?_range hlt] at hk
          simp at hk; subst hk
          exact (hf k _ sh (Array.getElem?_eq_getElem (by omega)) hs).2
      · simp at ha
    · simp at ha
  · simp at ha
  · rename_i hns hna
    split at ha
    · rename_i sh hl
      simp at ha; subst ha
      have ho' : Cell.okWide P w .any base t v := by
        revert ho
        split
        · rename_i fs h'; exact absurd h' (hns fs)
        · rename_i a b h'; exact absurd h' (hna a b)
        · exact id
      rw [cells_one ho'] at h
      obtain ⟨_, g2⟩ := trod_sh hl h
      obtain ⟨y, g3, g4⟩ := g2 0 v sh rfl rfl
      exact ⟨.one y, g3, g4⟩
    · simp at ha
theorem law_calls {f : Nat} {das : List DA} {vs : Array Value} (hd : DAs w (All w) das vs) (hok : FnOK P f (das.map DA.ga) (fun ra _ => ra = [.one (.d (.sc (.bool true)))])) :
    Calls P f vs w fun e w' => e = .returned (.bool true) ∧ Below w.heap.size w w' := by
  refine (hok.2 w (All w) (fun _ _ => False) vs (by simpa using hd.1) (fun t g v hg hv => ?_) (by simp) (by simp) (fun _ h => h) (by simp)).mono fun e w' h => ?_
  · simp only [List.getElem?_map, Option.map_eq_some_iff] at hg
    obtain ⟨da, hda, rfl⟩ := hg
    have := hd.2 t da v hda hv
    cases da with
    | one x => exact this
    | agg xs =>
      obtain ⟨us, h1, h2, h3⟩ := this
      refine ⟨us, h1, by simpa using h2.1, by simpa using h2.2, fun k p u hp hu => ?_⟩
      simp only [List.getElem?_map, Option.map_eq_some_iff] at hp
      obtain ⟨x, hx, rfl⟩ := hp
      exact h3 k x u hx hu
  · obtain ⟨v, ra, os, G, rfl, rfl, he, _, hr, _⟩ := h
    obtain ⟨us, h1, h2, h3⟩ := hr
    have hs : us.size = 1 := h2
    rw [dif_pos hs] at h1
    have hp : Pers w' _ (.sc (.bool true)) us[0] := h3 0 _ us[0] rfl (Array.getElem?_eq_getElem (by omega))
    have key : ∀ {S : Nat → Prop} {x : DV} {u : Value}, Pers w' S x u → x = .sc (.bool true) → u = .bool true := by
      intro S x u hp hx
      cases hp with
      | sc _ _ => cases hx; rfl
      | emp _ _ _ => cases hx
      | sl _ _ _ _ _ _ _ _ _ _ _ _ => cases hx
    exact ⟨by rw [h1, key hp rfl], he.os, he.tape, he.output, he.size, fun k hk => he.same k hk (by simp)⟩
end
/-! What shapes tell. -/
theorem shOk_int {n : Nat} {k : IntKind} {x : DV} (h : shOk n (.int k) x) : ∃ m, x = .sc (.int k m) ∧ (Lit.int k m).wf = true := by
  cases n with
  | zero => simp [shOk] at h
  | succ n => cases x with
    | sc v => cases v <;> simp [shOk] at h; obtain ⟨rfl, h⟩ := h; exact ⟨_, rfl, h⟩
    | sl _ _ => simp [shOk] at h
theorem shOk_u8 {n : Nat} {x : DV} (h : shOk n (.int .u8) x) : ∃ b : UInt8, x = .sc (.int .u8 b.toNat) := by
  obtain ⟨m, rfl, hw⟩ := shOk_int h
  simp [Lit.wf, IntKind.min, IntKind.max, IntKind.signed, IntKind.bits] at hw
  refine ⟨UInt8.ofNat m.toNat, ?_⟩
  have : ((UInt8.ofNat m.toNat).toNat : Int) = m := by
    rw [UInt8.toNat_ofNat']
    omega
  rw [this]
theorem shOk_bool {n : Nat} {x : DV} (h : shOk n .bool x) : ∃ b, x = .sc (.bool b) := by
  cases n with
  | zero => simp [shOk] at h
  | succ n => cases x with
    | sc v => cases v <;> simp [shOk] at h; exact ⟨_, rfl⟩
    | sl _ _ => simp [shOk] at h
theorem shOk_rows {n : Nat} {l : List Sh} {x : DV} {α : Type} {f : α → List DV} {q : α → Prop} (h : shOk n (.sl l) x)
    (hr : ∀ (m : Nat) (row : List DV), row.length = l.length → (∀ (j : Nat) (sh : Sh) (y : DV), l[j]? = some sh → row[j]? = some y → shOk m sh y) → ∃ a, row = f a ∧ q a) :
    ∃ as : List α, x = .sl l.length (as.map f) ∧ (as.length : Int) ≤ 9223372036854775807 ∧ ∀ a ∈ as, q a := by
  cases n with
  | zero => simp [shOk] at h
  | succ n => cases x with
    | sc v => cases v <;> simp [shOk] at h
    | sl sz rows =>
      obtain ⟨rfl, _, h3, h4⟩ := h
      have : ∀ rows : List (List DV), (∀ row ∈ rows, ∃ a, row = f a ∧ q a) → ∃ as : List α, rows = as.map f ∧ ∀ a ∈ as, q a := by
        intro rows
        induction rows with
        | nil => exact fun _ => ⟨[], rfl, by simp⟩
        | cons r rs ih =>
          intro h
          obtain ⟨a, h1, h2⟩ := h r (by simp)
          obtain ⟨as, h3, h4⟩ := ih (fun r hr => h r (by simp [hr]))
          exact ⟨a :: as, by rw [h1, h3]; rfl, fun b hb => (List.mem_cons.1 hb).elim (fun e => e ▸ h2) (h4 b)⟩
      obtain ⟨as, rfl, h5⟩ := this rows (fun row hrow => hr n row (h4 row hrow).1 (h4 row hrow).2)
      refine ⟨as, rfl, ?_, h5⟩
      simp only [List.length_map, maxLen] at h3
      omega
theorem row_one {α : Type} {P : Sh → DV → Prop} {sh : Sh} {row : List DV} {f : α → DV} {q : α → Prop} (hl : row.length = 1) (h : ∀ (j : Nat) (s : Sh) (y : DV), [sh][j]? = some s → row[j]? = some y → P s y) (hf : ∀ y, P sh y → ∃ a, y = f a ∧ q a) : ∃ a, row = [f a] ∧ q a := by
  match row, hl with
  | [y], _ =>
    obtain ⟨a, rfl, ha⟩ := hf y (h 0 sh y rfl rfl)
    exact ⟨a, rfl, ha⟩
theorem shOk_bytes {n : Nat} {x : DV} (h : shOk n (.sl [.int .u8]) x) : ∃ b : List UInt8, x = encB b ∧ (b.length : Int) ≤ 9223372036854775807 := by
  obtain ⟨as, h1, h2, _⟩ := shOk_rows (α := UInt8) (f := fun b => [.sc (.int .u8 b.toNat)]) (q := fun _ => True) h (fun m row hl hc => row_one (P := shOk m) hl hc fun y hy => by obtain ⟨b, rfl⟩ := shOk_u8 hy; exact ⟨b, rfl, trivial⟩)
  exact ⟨as, h1, h2⟩
theorem shOk_BB {n : Nat} {x : DV} (h : shOk n (.sl [.sl [.int .u8]]) x) : ∃ a : List (List UInt8), x = encBB a ∧ (a.length : Int) ≤ 9223372036854775807 ∧ ∀ b ∈ a, (b.length : Int) ≤ 9223372036854775807 :=
  shOk_rows (α := List UInt8) (f := fun b => [encB b]) (q := fun b => (b.length : Int) ≤ 9223372036854775807) h (fun m row hl hc => row_one (P := shOk m) hl hc fun y hy => shOk_bytes hy)
end Hearth

/- Arguments of laws as records. -/
namespace Hearth
open Go
abbrev shB : Sh := .sl [.int .u8]
abbrev shBB : Sh := .sl [.sl [.int .u8]]
abbrev shI : Sh := .sl [.int .i64]
abbrev i64 : Sh := .int .i64
abbrev shRow : List Sh := [shBB, i64, i64, i64, shBB, shB, shI]
theorem shOk_i64 {n : Nat} {x : DV} (h : shOk n i64 x) : ∃ m : Int, x = .sc (.int .i64 m) := by
  obtain ⟨m, h, _⟩ := shOk_int h; exact ⟨m, h⟩
theorem shOk_I {n : Nat} {x : DV} (h : shOk n shI x) : ∃ l : List Int, x = encI l ∧ (l.length : Int) ≤ 9223372036854775807 := by
  obtain ⟨l, h1, h2, _⟩ := shOk_rows (α := Int) (f := fun n => [.sc (.int .i64 n)]) (q := fun _ => True) h (fun m _ hl hc => row_one (P := shOk m) hl hc fun _ hy => by obtain ⟨b, rfl⟩ := shOk_i64 hy; exact ⟨b, rfl, trivial⟩)
  exact ⟨l, h1, h2⟩
theorem shOk_B {n : Nat} {x : DV} (h : shOk n shBB x) : ∃ a : List (List UInt8), x = encBB a ∧ BigBB a := by
  obtain ⟨a, h1, h2, h3⟩ := shOk_BB h; exact ⟨a, h1, h2, h3⟩
theorem row_Rr {n : Nat} {row : List DV} (hl : row.length = 7) (h : ∀ (j : Nat) (s : Sh) (y : DV), shRow[j]? = some s → row[j]? = some y → shOk n s y) : ∃ r : Rr, row = r.cells ∧ BigR r := by
  match row, hl with
  | [c0, c1, c2, c3, c4, c5, c6], _ =>
    obtain ⟨a0, rfl, b0⟩ := shOk_B (h 0 _ c0 rfl rfl)
    obtain ⟨a1, rfl⟩ := shOk_i64 (h 1 _ c1 rfl rfl)
    obtain ⟨a2, rfl⟩ := shOk_i64 (h 2 _ c2 rfl rfl)
    obtain ⟨a3, rfl⟩ := shOk_i64 (h 3 _ c3 rfl rfl)
    obtain ⟨a4, rfl, b4⟩ := shOk_B (h 4 _ c4 rfl rfl)
    obtain ⟨a5, rfl, b5⟩ := shOk_bytes (h 5 _ c5 rfl rfl)
    obtain ⟨a6, rfl, b6⟩ := shOk_I (h 6 _ c6 rfl rfl)
    exact ⟨⟨a0, a1, a2, a3, a4, a5, a6⟩, rfl, b0, b4, b5, b6⟩
theorem shOk_Rs {n : Nat} {x : DV} (h : shOk n (.sl shRow) x) : ∃ l : List Rr, x = encR l ∧ BigRs l := by
  obtain ⟨l, h1, h2, h3⟩ := shOk_rows (α := Rr) (f := Rr.cells) (q := BigR) h (fun m row hl hc => row_Rr hl hc)
  exact ⟨l, h1, h2, h3⟩
abbrev shQuestion : List Sh := [shBB, i64]
theorem shOk_bl {n : Nat} {x : DV} (h : shOk n .bool x) : ∃ b : Bool, x = .sc (.bool b) := shOk_bool h
theorem shOk_Qs {n : Nat} {x : DV} (h : shOk n (.sl shQuestion) x) : ∃ l : List Qn, x = encQ l ∧ BigQs l := by
  obtain ⟨l, h1, h2, h3⟩ := shOk_rows (α := Qn) (f := Qn.cells) (q := fun q => BigBB q.name) h (fun m row hl hc => by
    match row, hl with
    | [c0, c1], _ =>
      obtain ⟨a0, rfl, b0⟩ := shOk_B (hc 0 _ c0 rfl rfl)
      obtain ⟨a1, rfl⟩ := shOk_i64 (hc 1 _ c1 rfl rfl)
      exact ⟨⟨a0, a1⟩, rfl, b0⟩)
  exact ⟨l, h1, h2, h3⟩
abbrev shWant : List Sh := [shBB, i64, i64, i64, shBB, shB, shI, i64, .bool]
theorem row_Want {n : Nat} {row : List DV} (hl : row.length = 9) (h : ∀ (j : Nat) (s : Sh) (y : DV), shWant[j]? = some s → row[j]? = some y → shOk n s y) : ∃ w : Want, row = w.cells ∧ BigW w := by
  match row, hl with
  | [c0, c1, c2, c3, c4, c5, c6, c7, c8], _ =>
    obtain ⟨a0, rfl, b0⟩ := shOk_B (h 0 _ c0 rfl rfl)
    obtain ⟨a1, rfl⟩ := shOk_i64 (h 1 _ c1 rfl rfl)
    obtain ⟨a2, rfl⟩ := shOk_i64 (h 2 _ c2 rfl rfl)
    obtain ⟨a3, rfl⟩ := shOk_i64 (h 3 _ c3 rfl rfl)
    obtain ⟨a4, rfl, b4⟩ := shOk_B (h 4 _ c4 rfl rfl)
    obtain ⟨a5, rfl, b5⟩ := shOk_bytes (h 5 _ c5 rfl rfl)
    obtain ⟨a6, rfl, b6⟩ := shOk_I (h 6 _ c6 rfl rfl)
    obtain ⟨a7, rfl⟩ := shOk_i64 (h 7 _ c7 rfl rfl)
    obtain ⟨a8, rfl⟩ := shOk_bl (h 8 _ c8 rfl rfl)
    exact ⟨⟨⟨a0, a1, a2, a3, a4, a5, a6⟩, a7, a8⟩, rfl, ⟨b0, b4, b5, b6⟩⟩
theorem shOk_Ws {n : Nat} {x : DV} (h : shOk n (.sl shWant) x) : ∃ l : List Want, x = encW l ∧ BigWs l := by
  obtain ⟨l, h1, h2, h3⟩ := shOk_rows (α := Want) (f := Want.cells) (q := BigW) h (fun m row hl hc => row_Want hl hc)
  exact ⟨l, h1, h2, h3⟩
abbrev shMsg : List Sh := [i64, .bool, i64, .bool, i64, .sl shQuestion, .sl shRow, .sl shRow, .sl shRow, .sl shWant, .sl shWant]
theorem row_Msg {n : Nat} {row : List DV} (hl : row.length = 11) (h : ∀ (j : Nat) (s : Sh) (y : DV), shMsg[j]? = some s → row[j]? = some y → shOk n s y) : ∃ m : Msg, row = m.cells ∧ BigM m := by
  match row, hl with
  | [c0, c1, c2, c3, c4, c5, c6, c7, c8, c9, c10], _ =>
    obtain ⟨a0, rfl⟩ := shOk_i64 (h 0 _ c0 rfl rfl)
    obtain ⟨a1, rfl⟩ := shOk_bl (h 1 _ c1 rfl rfl)
    obtain ⟨a2, rfl⟩ := shOk_i64 (h 2 _ c2 rfl rfl)
    obtain ⟨a3, rfl⟩ := shOk_bl (h 3 _ c3 rfl rfl)
    obtain ⟨a4, rfl⟩ := shOk_i64 (h 4 _ c4 rfl rfl)
    obtain ⟨a5, rfl, b5⟩ := shOk_Qs (h 5 _ c5 rfl rfl)
    obtain ⟨a6, rfl, b6⟩ := shOk_Rs (h 6 _ c6 rfl rfl)
    obtain ⟨a7, rfl, b7⟩ := shOk_Rs (h 7 _ c7 rfl rfl)
    obtain ⟨a8, rfl, b8⟩ := shOk_Rs (h 8 _ c8 rfl rfl)
    obtain ⟨a9, rfl, b9⟩ := shOk_Ws (h 9 _ c9 rfl rfl)
    obtain ⟨a10, rfl, b10⟩ := shOk_Ws (h 10 _ c10 rfl rfl)
    exact ⟨⟨a0, a1, a2, a3, a4, a5, a6, a7, a8, a9, a10⟩, rfl, b5, b6, b7, b8, b9, b10⟩
end Hearth
