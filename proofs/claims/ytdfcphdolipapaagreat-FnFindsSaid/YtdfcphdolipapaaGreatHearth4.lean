/- An abstract machine for Go programs, and its soundness: the framework of this proof; no condition. -/
import Derived.WideShapes
import Derived.Test.YtdfcphdolipapaaGreatHearth3
set_option linter.unusedVariables false
set_option linter.unusedSimpArgs false
/- From a function's contract to a law's walk. -/
namespace Hearth
open Go Go.RowKit
inductive AS where
 | one (sh : Sh)
 | agg (l : List Sh)
def shDA (n : Nat) : AS → DA → Prop
 | .one sh, .one x => shOk n sh x
 | .agg l, .agg xs => xs.length = l.length ∧ ∀ (k : Nat) (sh : Sh) (x : DV), l[k]? = some sh → xs[k]? = some x → shOk n sh x
 | _, _ => False
def asOf (P : Program) (n : Nat) (t : TypeId) : Option AS :=
 match P.underlying t with
 | some (.struct _) => match cellsSh P n t with
  | some l => if l.length ≤ 64 then some (.agg l) else none
  | none => none
 | some (.array _ _) => none
 | _ => match cellsSh P n t with
  | some [sh] => some (.one sh)
  | _ => none
section
variable {H : Type} {enc : TypeId × Value → H} {P : Program} {w : World}
theorem cells_one {base : Nat} {t : TypeId} {v : Value} (h : Cell.okWide P w .any base t v) : v.cells.toList = [v] := by
 cases v <;> first | rfl | (exfalso; revert h; simp [Cell.okWide, Cell.ok]; try (split <;> simp_all))
theorem arg_da {n : Nat} {sp : AS} {t : TypeId} {v : Value} {d : DataW H} {ps : List MemPlace} {base : Nat} (ha : asOf P n t = some sp) (ho : Value.okWide P w .any base t v) (h : DataW.Trod enc P w 0 (fun _ => true) true t v d ps) :
  ∃ da, DAr w (All w) da v ∧ shDA n sp da := by
 obtain ⟨fuel, h⟩ := h
 unfold asOf at ha
 unfold Value.okWide at ho
 split at ha
 ·rename_i fs ht
  simp only [ht] at ho
  obtain ⟨cs, rfl, hcs, _⟩ := ho
  split at ha
  ·rename_i l hl
   split at ha
   ·rename_i h64
    simp at ha; subst ha
    obtain ⟨g1, g2⟩ := trod_sh hl h
    have g1' : cs.size = l.length := by simpa [Value.cells] using g1
    have ch : ∀ k : Nat, ∃ y : DV, ∀ (u : Value) (sh : Sh), cs[k]? = some u → l[k]? = some sh → Pers w (All w) y u ∧ shOk n sh y := by
     intro k
     by_cases hk : k < l.length
     ·obtain ⟨y, a1, a2⟩ := g2 k (cs[k]'(by omega)) l[k] (by simp [Value.cells, g1', hk]) (List.getElem?_eq_getElem hk)
      refine ⟨y, fun u sh b1 b2 => ?_⟩
      rw [Array.getElem?_eq_getElem (by omega)] at b1
      rw [List.getElem?_eq_getElem hk] at b2
      simp at b1 b2
      subst b1; subst b2
      exact ⟨a1, a2⟩
     ·exact ⟨.sl 0 [], fun u sh _ b2 => by rw [List.getElem?_eq_none (by omega)] at b2; cases b2⟩
    have ⟨f, hf⟩ := Classical.axiomOfChoice ch
    refine ⟨.agg ((List.range l.length).map f), ⟨cs, rfl, ⟨by simp [g1'], by simpa using h64⟩, fun k x u hx hu => ?_⟩, by simp, fun k sh x hs hx => ?_⟩
    ·simp only [List.getElem?_map, Option.map_eq_some_iff] at hx
     obtain ⟨k', hk, rfl⟩ := hx
     have hlt : k < l.length := by have := (List.getElem?_eq_some_iff.1 hk).1; simpa using this
     rw [List.getElem?_range hlt] at hk
     simp at hk; subst hk
     exact (hf k u _ hu (List.getElem?_eq_getElem hlt)).1
    ·simp only [List.getElem?_map, Option.map_eq_some_iff] at hx
     obtain ⟨k', hk, rfl⟩ := hx
     have hlt : k < l.length := by have := (List.getElem?_eq_some_iff.1 hk).1; simpa using this
     rw [List.getElem?_range hlt] at hk
     simp at hk; subst hk
     exact (hf k _ sh (Array.getElem?_eq_getElem (by omega)) hs).2
   ·simp at ha
  ·simp at ha
 ·simp at ha
 ·rename_i hns hna
  split at ha
  ·rename_i sh hl
   simp at ha; subst ha
   have ho' : Cell.okWide P w .any base t v := by
    revert ho
    split
    ·rename_i fs h'; exact absurd h' (hns fs)
    ·rename_i a b h'; exact absurd h' (hna a b)
    ·exact id
   rw [cells_one ho'] at h
   obtain ⟨_, g2⟩ := trod_sh hl h
   obtain ⟨y, g3, g4⟩ := g2 0 v sh rfl rfl
   exact ⟨.one y, g3, g4⟩
  ·simp at ha
theorem law_calls {f : Nat} {das : List DA} {vs : Array Value} (hd : DAs w (All w) das vs) (hok : FnOK P f (das.map DA.ga) (fun ra _ => ra = [.one (.d (.sc (.bool true)))])) :
  Calls P f vs w fun e w' => e = .returned (.bool true) ∧ Below w.heap.size w w' := by
 refine (hok.2 w (All w) (fun _ _ => False) vs (by simpa using hd.1) (fun t g v hg hv => ?_) (by simp) (by simp) (fun _ h => h) (by simp)).mono fun e w' h => ?_
 ·simp only [List.getElem?_map, Option.map_eq_some_iff] at hg
  obtain ⟨da, hda, rfl⟩ := hg
  have := hd.2 t da v hda hv
  cases da with
  | one x => exact this
  | agg xs =>
   obtain ⟨us, h1, h2, h3⟩ := this
   refine ⟨us, h1, by simpa using h2.1, by simpa using h2.2, fun k p u hp hu => ?_⟩
   simp only [List.getElem?_map, Option.map_eq_some_iff] at hp
   obtain ⟨x, hx, rfl⟩ := hp
   exact h3 k x u hx hu
 ·obtain ⟨v, ra, os, G, rfl, rfl, he, _, hr, _⟩ := h
  obtain ⟨us, h1, h2, h3⟩ := hr
  have hs : us.size = 1 := h2
  rw [dif_pos hs] at h1
  have hp : Pers w' _ (.sc (.bool true)) us[0] := h3 0 _ us[0] rfl (Array.getElem?_eq_getElem (by omega))
  have key : ∀ {S : Nat → Prop} {x : DV} {u : Value}, Pers w' S x u → x = .sc (.bool true) → u = .bool true := by
   intro S x u hp hx
   cases hp with
   | sc _ _ => cases hx; rfl
   | emp _ _ _ => cases hx
   | sl _ _ _ _ _ _ _ _ _ _ _ _ => cases hx
  exact ⟨by rw [h1, key hp rfl], he.os, he.tape, he.output, he.size, fun k hk => he.same k hk (by simp)⟩
end
/-! What shapes tell. -/
theorem shOk_int {n : Nat} {k : IntKind} {x : DV} (h : shOk n (.int k) x) : ∃ m, x = .sc (.int k m) ∧ (Lit.int k m).wf = true := by
 cases n with
 | zero => simp [shOk] at h
 | succ n => cases x with
  | sc v => cases v <;> simp [shOk] at h; obtain ⟨rfl, h⟩ := h; exact ⟨_, rfl, h⟩
  | sl _ _ => simp [shOk] at h
theorem shOk_u8 {n : Nat} {x : DV} (h : shOk n (.int .u8) x) : ∃ b : UInt8, x = .sc (.int .u8 b.toNat) := by
 obtain ⟨m, rfl, hw⟩ := shOk_int h
 simp [Lit.wf, IntKind.min, IntKind.max, IntKind.signed, IntKind.bits] at hw
 refine ⟨UInt8.ofNat m.toNat, ?_⟩
 have : ((UInt8.ofNat m.toNat).toNat : Int) = m := by
  rw [UInt8.toNat_ofNat']
  omega
 rw [this]
theorem shOk_rows {n : Nat} {l : List Sh} {x : DV} {α : Type} {f : α → List DV} {q : α → Prop} (h : shOk n (.sl l) x)
  (hr : ∀ (m : Nat) (row : List DV), row.length = l.length → (∀ (j : Nat) (sh : Sh) (y : DV), l[j]? = some sh → row[j]? = some y → shOk m sh y) → ∃ a, row = f a ∧ q a) :
  ∃ as : List α, x = .sl l.length (as.map f) ∧ (as.length : Int) ≤ 9223372036854775807 ∧ ∀ a ∈ as, q a := by
 cases n with
 | zero => simp [shOk] at h
 | succ n => cases x with
  | sc v => cases v <;> simp [shOk] at h
  | sl sz rows =>
   obtain ⟨rfl, _, h3, h4⟩ := h
   have : ∀ rows : List (List DV), (∀ row ∈ rows, ∃ a, row = f a ∧ q a) → ∃ as : List α, rows = as.map f ∧ ∀ a ∈ as, q a := by
    intro rows
    induction rows with
    | nil => exact fun _ => ⟨[], rfl, by simp⟩
    | cons r rs ih =>
     intro h
     obtain ⟨a, h1, h2⟩ := h r (by simp)
     obtain ⟨as, h3, h4⟩ := ih (fun r hr => h r (by simp [hr]))
     exact ⟨a :: as, by rw [h1, h3]; rfl, fun b hb => (List.mem_cons.1 hb).elim (fun e => e ▸ h2) (h4 b)⟩
   obtain ⟨as, rfl, h5⟩ := this rows (fun row hrow => hr n row (h4 row hrow).1 (h4 row hrow).2)
   refine ⟨as, rfl, ?_, h5⟩
   simp only [List.length_map, maxLen] at h3
   omega
theorem row_one {α : Type} {P : Sh → DV → Prop} {sh : Sh} {row : List DV} {f : α → DV} {q : α → Prop} (hl : row.length = 1) (h : ∀ (j : Nat) (s : Sh) (y : DV), [sh][j]? = some s → row[j]? = some y → P s y) (hf : ∀ y, P sh y → ∃ a, y = f a ∧ q a) : ∃ a, row = [f a] ∧ q a := by
 match row, hl with
 | [y], _ =>
  obtain ⟨a, rfl, ha⟩ := hf y (h 0 sh y rfl rfl)
  exact ⟨a, rfl, ha⟩
theorem shOk_bytes {n : Nat} {x : DV} (h : shOk n (.sl [.int .u8]) x) : ∃ b : List UInt8, x = encB b ∧ (b.length : Int) ≤ 9223372036854775807 := by
 obtain ⟨as, h1, h2, _⟩ := shOk_rows (α := UInt8) (f := fun b => [.sc (.int .u8 b.toNat)]) (q := fun _ => True) h (fun m row hl hc => row_one (P := shOk m) hl hc fun y hy => by obtain ⟨b, rfl⟩ := shOk_u8 hy; exact ⟨b, rfl, trivial⟩)
 exact ⟨as, h1, h2⟩
end Hearth

/- Arguments of laws as records. -/
namespace Hearth
open Go
abbrev shB : Sh := .sl [.int .u8]
abbrev i64 : Sh := .int .i64
end Hearth
