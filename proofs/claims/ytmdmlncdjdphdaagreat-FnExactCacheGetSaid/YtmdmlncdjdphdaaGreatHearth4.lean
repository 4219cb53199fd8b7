/- An abstract machine for Go programs, and its soundness: the framework of this proof; no condition. -/
import Derived.Maps.Own
import Derived.WalkKit
import Derived.ProofKit
import Derived.Below
import Derived.Carry
import Derived.Laws.Externs
import Derived.Lib.Bytealg
import Derived.Lib.AppendZerosOnto
import Derived.WideShapes
import Derived.Test.YtmdmlncdjdphdaaGreatHearth3
set_option linter.unusedVariables false
set_option linter.unusedSimpArgs false
/- A map literal of numbers and strings, and what is looked up in it. -/
namespace Hearth
open Go Go.RowKit
abbrev BelowD (B : Nat) (w w' : World) : Prop := Below B w w' ∧ w.drawn ≤ w'.drawn
def Tab (w : World) (r : Nat) (l : List (Int × ByteArray)) : Prop :=
  ∃ (es : Array MapEntry) (clock : Nat), w.heap[r]? = some (.map es clock) ∧ es.toList.map (fun e => (e.key, e.val)) = l.map fun e => (Value.int .i64 e.1, Value.string e.2)
theorem findNow_tab (n : Int) : ∀ (es : List MapEntry) (l : List (Int × ByteArray)) (i : Nat), es.map (fun e => (e.key, e.val)) = l.map (fun e => (Value.int .i64 e.1, Value.string e.2)) →
    ∃ j, Instr.findNow (.int .i64) (.int .i64 n) es i = some ((l.find? fun e => n == e.1).map fun e => (j, Value.string e.2))
  | [], [], i, _ => ⟨0, rfl⟩
  | [], _ :: _, i, h => by simp at h
  | _ :: _, [], i, h => by simp at h
  | e :: es, x :: l, i, h => by
    simp only [List.map_cons, List.cons.injEq, Prod.mk.injEq] at h
    obtain ⟨⟨h1, h2⟩, h3⟩ := h
    simp only [Instr.findNow, h1, Instr.sameNow, if_true, List.find?_cons, h2]
    by_cases hn : n = x.1
    · subst hn; exact ⟨i, by simp⟩
    · have : (n == x.1) = false := by simpa using hn
      rw [this]
      exact findNow_tab n es l (i + 1) h3
section
variable {P : Program} {w : World} {t kt et : TypeId} {r : Nat} {n : Int} {l : List (Int × ByteArray)}
theorem run_insert {b : ByteArray} (ht : P.underlying t = some (.map kt et)) (hkt : P.underlying kt = some (.int .i64)) (hT : Tab w r l) (hf : l.find? (fun e => n == e.1) = none) :
    ∃ w', (Instr.mapUpdate t (.map (some r)) (.int .i64 n) (.string b)).run P w = .ok () w' ∧ Tab w' r (l ++ [(n, b)]) ∧ Ext w w' (fun b => b = r) := by
  obtain ⟨es, clock, hb, he⟩ := hT
  obtain ⟨j, hj⟩ := findNow_tab n es.toList l 0 he
  rw [hf] at hj
  have hc : (Instr.checkKey false 10000 kt (.int .i64 n)).run P w = .ok () w := MapKept.run_checkKey (k := .int .i64 n) hkt (by simp [MapKept.IsKey]) false 9999
  have hs := MapKept.heap_set (o' := .map (es.push { key := .int .i64 n, val := .string b, born := clock }) (clock + 1)) hb
  refine ⟨{ w with heap := w.heap.setIfInBounds r (.map (es.push { key := .int .i64 n, val := .string b, born := clock }) (clock + 1)) }, ?_, ⟨_, _, hs.1, by simp [he]⟩, ⟨rfl, rfl, rfl, by simp, fun c _ hc => hs.2 c hc, Nat.le_refl _⟩⟩
  simp [Instr.mapUpdate, run_underlying ht, MapKept.run_getObj_map hb, hc, MapKept.run_findKey hkt hj, MapKept.run_setObj_map _ hb, Result.andThen]
theorem run_find (ht : P.underlying t = some (.map kt et)) (hkt : P.underlying kt = some (.int .i64)) (hz : (zeroValue et).run P w = .ok (.string ByteArray.empty) w) (hT : Tab w r l) :
    (Instr.lookup t (.map (some r)) (.int .i64 n) false).run P w = .ok (.string (((l.find? fun e => n == e.1).map (·.2)).getD ByteArray.empty)) w := by
  obtain ⟨es, clock, hb, he⟩ := hT
  obtain ⟨j, hj⟩ := findNow_tab n es.toList l 0 he
  have hc : (Instr.checkKey es.isEmpty 10000 kt (.int .i64 n)).run P w = .ok () w := MapKept.run_checkKey (k := .int .i64 n) hkt (by simp [MapKept.IsKey]) _ 9999
  cases hfi : l.find? (fun e => n == e.1) with
  | none =>
    rw [hfi] at hj
    simp [Instr.lookup, run_underlying ht, MapKept.run_getObj_map hb, hc, MapKept.run_findKey hkt hj, Result.andThen, hz]
  | some e =>
    rw [hfi] at hj
    simp [Instr.lookup, run_underlying ht, MapKept.run_getObj_map hb, hc, MapKept.run_findKey hkt hj, Result.andThen]
theorem upon_insert {b : ByteArray} {o : Oper} {a : Act} {K : Act → World → Prop} {Q : Exit → Act → World → Prop} {f : Unit → World → Result Next} (ht : P.underlying t = some (.map kt et)) (hkt : P.underlying kt = some (.int .i64)) (hT : Tab w r l) (hf : l.find? (fun e => n == e.1) = none)
    (h : ∀ w', Tab w' r (l ++ [(n, b)]) → Ext w w' (fun b => b = r) → Oper.upon P o a K Q (f () w')) : Oper.upon P o a K Q (((Instr.mapUpdate t (.map (some r)) (.int .i64 n) (.string b)).run P w).andThen f) := by
  obtain ⟨w', h1, h2, h3⟩ := run_insert (b := b) ht hkt hT hf
  rw [h1]
  exact h w' h2 h3
theorem upon_find {o : Oper} {a : Act} {K : Act → World → Prop} {Q : Exit → Act → World → Prop} {f : Value → World → Result Next} (ht : P.underlying t = some (.map kt et)) (hkt : P.underlying kt = some (.int .i64)) (hz : (zeroValue et).run P w = .ok (.string ByteArray.empty) w) (hT : Tab w r l)
    (h : Oper.upon P o a K Q (f (.string (((l.find? fun e => n == e.1).map (·.2)).getD ByteArray.empty)) w)) : Oper.upon P o a K Q (((Instr.lookup t (.map (some r)) (.int .i64 n) false).run P w).andThen f) := by
  rw [run_find ht hkt hz hT]
  exact h
end
theorem FnOK.ofWalk {P : Program} {f : FuncId} {fn : Func} (hf : P.funcs[f]? = some fn) (hb : fn.body.isSome = true) (hname : (fn.name == "runtime.NumGoroutine") = false) {n : Int} {b : ByteArray}
    (h : ∀ w : World, Calls P f #[.int .i64 n] w fun e w' => e = .returned (.string b) ∧ BelowD w.heap.size w w') : FnOK P f [.one (.d (.sc (.int .i64 n)))] (fun ra _ => ra = [.one (.d (.sc (.string b)))]) := by
  refine ⟨⟨fn, hf, hb, hname⟩, fun w S Fs vs hs hv _ _ _ hF => ?_⟩
  have hs1 : vs.size = 1 := hs
  have hp : Pers w S (.sc (.int .i64 n)) vs[0] := hv 0 _ vs[0] rfl (Array.getElem?_eq_getElem (by omega))
  have key : ∀ {x : DV} {u : Value}, Pers w S x u → x = .sc (.int .i64 n) → u = .int .i64 n := by
    intro x u hp hx
    cases hp with
    | sc _ _ => cases hx; rfl
    | emp _ _ _ => cases hx
    | sl _ _ _ _ _ _ _ _ _ _ _ _ => cases hx
  have hvs : vs = #[.int .i64 n] := by
    apply Array.ext
    · simpa using hs1
    · intro i h1 h2
      have : i = 0 := by omega
      subst this
      exact key hp rfl
  rw [hvs]
  refine (h w).mono fun e w' h => ?_
  obtain ⟨rfl, hbel⟩ := h
  have hno : ∀ q b, ¬ Fs q b := by
    intro q b hq
    rcases hF q b hq with ⟨g, dp, x, hg | ⟨cs, hg⟩⟩
    all_goals
      simp only [gaAt] at hg
      cases hq64 : q / 64 with
      | zero =>
        rw [hq64] at hg
        simp [GA.at] at hg
      | succ k => rw [hq64] at hg; simp at hg
  refine ⟨.string b, [.one (.d (.sc (.string b)))], ⟨fun _ => .sl 0 [], fun _ => []⟩, fun _ _ => False, rfl, rfl, ⟨hbel.1.os, hbel.1.tape, hbel.1.output, hbel.1.size, fun k hk _ => hbel.1.block k hk, hbel.2⟩, ⟨by simp, by simp, by simp⟩, ⟨#[.string b], rfl, rfl, fun t a u ha hu => ?_⟩, fun t k g v p u hg hv hp hu => ?_⟩
  · cases t with
    | zero => simp at ha hu; subst ha; subst hu; exact .sc _ rfl
    | succ t => simp at ha
  · cases t with
    | zero =>
      simp at hg; subst hg
      simp only [GA.at] at hp
      split at hp
      · simp at hp; subst hp; trivial
      · simp at hp
    | succ t => simp at hg
end Hearth

/- Bytes compared by an entry of the model's own. -/
namespace Hearth
open Go Go.RowKit
def Rd (P : Program) (w : World) (v : Value) (l : List UInt8) : Prop := (Extern.Bytes.bytesOf v).run P w = .ok ⟨l.toArray⟩ w
theorem run_ldB {P : Program} (w : World) : ∀ (l : List UInt8) (a : Addr) (acc : ByteArray), (∀ j x, l[j]? = some x → w.cell? (a.add j) = some (.int .u8 x.toNat)) →
    (Extern.Bytes.loadBytes a l.length acc).run P w = .ok ⟨acc.data ++ l.toArray⟩ w
  | [], a, acc, _ => by simp [Extern.Bytes.loadBytes]
  | x :: l, a, acc, h => by
    have h0 : w.cell? a = some (.int .u8 x.toNat) := by
      have := h 0 x rfl
      simpa [Addr.add] using this
    have ih := run_ldB (P := P) w l (a.add 1) (acc.push x) (fun j y hy => by
      have := h (j + 1) y (by simpa using hy)
      have e : (a.add 1).add j = a.add (j + 1) := by
        unfold Addr.add
        by_cases hj : j = 0
        · subst hj; simp
        · simp [hj]; omega
      rw [e]; exact this)
    have hx : ((x.toNat : Int).toNat).toUInt8 = x := by simp
    simp only [List.length_cons, Extern.Bytes.loadBytes, Sem.run_bind, run_load, h0, Result.andThen, hx]
    rw [ih]
    congr 1
    apply ByteArray.ext
    simp [ByteArray.push]
theorem Rd.of {P : Program} {w : World} {S : Nat → Prop} {l : List UInt8} {v : Value} (hv : Pers w S (encB l) v) : Rd P w v l := by
  have hlen : (encB l).len = l.length := by simp [encB, DV.len]
  obtain ⟨A, c, rfl, _⟩ := hv.slice rfl
  rw [hlen]
  by_cases hl0 : l = []
  · subst hl0
    cases A <;> rfl
  · have hpos : 0 < l.length := by cases l <;> simp_all
    obtain ⟨_, b, off, rfl, _⟩ := hv.rowAt (i := 0) rfl (by rw [hlen]; exact hpos)
    unfold Rd
    simp only [Extern.Bytes.bytesOf]
    rw [run_ldB]
    · simp [ByteArray.empty, ByteArray.emptyWithCapacity] <;> rfl
    · intro j x hj
      have hi : j < l.length := (List.getElem?_eq_some_iff.1 hj).1
      have hx : l[j] = x := (List.getElem?_eq_some_iff.1 hj).2
      obtain ⟨_, b', off', hA, _, _, hc⟩ := hv.rowAt (i := j) rfl (by rw [hlen]; exact hi)
      simp at hA
      obtain ⟨rfl, rfl⟩ := hA
      have hrow : (encB l).row j = [.sc (.int .u8 (l[j]).toNat)] := by
        unfold DV.row encB DV.rows
        rw [List.getD_eq_getElem?_getD, List.getElem?_map, List.getElem?_eq_getElem hi]
        rfl
      obtain ⟨u, h1, h2⟩ := hc 0 (.sc (.int .u8 (l[j]).toNat)) (by rw [hrow]; rfl)
      simp [encB, DV.esz] at h1
      have ha : (⟨b, off, none⟩ : Addr).add j = ⟨b, off + j, none⟩ := by
        unfold Addr.add
        by_cases hj0 : j = 0 <;> simp [hj0]
      rw [ha, h1, Pers.scEq h2, hx]
def cmpRec : List UInt8 → List UInt8 → Int
  | [], [] => 0
  | [], _ :: _ => -1
  | _ :: _, [] => 1
  | x :: xs, y :: ys => if x = y then cmpRec xs ys else if x < y then -1 else 1
theorem bytesLess_cons (x y : UInt8) (xs ys : List UInt8) : Op.bytesLess (x :: xs) (y :: ys) = (decide (x < y) || (x == y && Op.bytesLess xs ys)) := rfl
theorem cmpB_rec : ∀ a b : List UInt8, cmpB a b = cmpRec a b
  | [], [] => rfl
  | [], _ :: _ => rfl
  | _ :: _, [] => by simp [cmpB, cmpRec, Op.bytesLess]
  | x :: xs, y :: ys => by
    have ih := cmpB_rec xs ys
    unfold cmpRec
    by_cases h : x = y
    · subst h
      rw [if_pos rfl, ← ih]
      have : ¬ x < x := by simp
      simp [cmpB, bytesLess_cons, this]
    · rw [if_neg h]
      by_cases hl : x < y
      · simp [cmpB, bytesLess_cons, hl]
      · simp [cmpB, bytesLess_cons, hl, h]
def cmpIx (a b : List UInt8) : Int :=
  match (List.range (min a.length b.length)).find? fun i => a[i]! != b[i]! with
  | some i => if a[i]! < b[i]! then -1 else 1
  | none => if a.length < b.length then -1 else if a.length > b.length then 1 else 0
theorem cmpIx_rec : ∀ a b : List UInt8, cmpIx a b = cmpRec a b
  | [], [] => rfl
  | [], y :: ys => by simp [cmpIx, cmpRec]
  | x :: xs, [] => by simp [cmpIx, cmpRec]
  | x :: xs, y :: ys => by
    have ih := cmpIx_rec xs ys
    unfold cmpRec
    rw [← ih]
    unfold cmpIx
    have hm : min (x :: xs).length (y :: ys).length = min xs.length ys.length + 1 := by simp only [List.length_cons]; omega
    rw [hm, List.range_succ_eq_map, List.find?_cons]
    by_cases h : x = y
    · subst h
      simp only [List.getElem!_cons_zero, bne_self_eq_false, List.find?_map, if_true]
      simp only [Function.comp_def, List.getElem!_cons_succ]
      cases (List.range (min xs.length ys.length)).find? (fun i => xs[i]! != ys[i]!) with
      | none => simp
      | some i => simp
    · have hne : (x != y) = true := by simpa using h
      simp only [List.getElem!_cons_zero, hne, if_neg h]
theorem cmp_lists (a b : List UInt8) : Extern.BytealgCompare.cmp ⟨a.toArray⟩ ⟨b.toArray⟩ = cmpB a b := by
  rw [cmpB_rec, ← cmpIx_rec]
  unfold Extern.BytealgCompare.cmp cmpIx
  have hg : ∀ (l : List UInt8) (i : Nat), (⟨l.toArray⟩ : ByteArray)[i]! = l[i]! := by
    intro l i
    by_cases h : i < l.length
    · rw [getElem!_pos (⟨l.toArray⟩ : ByteArray) i (by simpa [ByteArray.size] using h), getElem!_pos l i h]
      rfl
    · rw [getElem!_neg (⟨l.toArray⟩ : ByteArray) i (by simpa [ByteArray.size] using h), getElem!_neg l i h]
  have hs : ∀ l : List UInt8, (⟨l.toArray⟩ : ByteArray).size = l.length := fun l => by simp [ByteArray.size]
  simp only [hg, hs]
  rfl
theorem run_compare {P : Program} {f : FuncId} {fn : Func} {w : World} {va vb : Value} {a b : List UInt8} (hf : P.funcs[f]? = some fn) (hname : (fn.name == "runtime.NumGoroutine") = false) (hb : fn.body.isNone = true) (hn : Extern.findNext fn = none)
    (he : Extern.find fn = some Extern.BytealgCompare.compare) (ha : Rd P w va a) (hb' : Rd P w vb b) : (callFunc f #[va, vb]).run P w = .ok (.value (.int .i64 (cmpB a b))) w := by
  rw [run_callFunc_extern hf hname hb hn he]
  have : (Extern.BytealgCompare.compare #[va, vb]).run P w = .ok (.int .i64 (cmpB a b)) w := by
    unfold Rd at ha hb'
    change Sem.run P (do pure (goInt (Extern.BytealgCompare.cmp (← Extern.Bytes.bytesOf va) (← Extern.Bytes.bytesOf vb)))) w = _
    simp only [Sem.run_bind, Sem.run_pure, ha, hb', Result.andThen, cmp_lists]
    rfl
  rw [this]
  rfl
theorem FnOK.ofWalkB {P : Program} {f : FuncId} {fn : Func} (hf : P.funcs[f]? = some fn) (hb : fn.body.isSome = true) (hname : (fn.name == "runtime.NumGoroutine") = false) {a b : List UInt8} {n : Int}
    (h : ∀ (w : World) (va vb : Value), Rd P w va a → Rd P w vb b → Calls P f #[va, vb] w fun e w' => e = .returned (.int .i64 n) ∧ BelowD w.heap.size w w') : FnOK P f [.one (.d (encB a)), .one (.d (encB b))] (fun ra _ => ra = [.one (.d (.sc (.int .i64 n)))]) := by
  refine ⟨⟨fn, hf, hb, hname⟩, fun w S Fs vs hs hv _ _ _ hF => ?_⟩
  have hs1 : vs.size = 2 := hs
  have hp0 : Rd P w vs[0] a := Rd.of (hv 0 _ vs[0] rfl (Array.getElem?_eq_getElem (by omega)))
  have hp1 : Rd P w vs[1] b := Rd.of (hv 1 _ vs[1] rfl (Array.getElem?_eq_getElem (by omega)))
  have hvs : vs = #[vs[0], vs[1]] := by
    apply Array.ext
    · simpa using hs1
    · intro i h1 h2
      match i with
      | 0 => rfl
      | 1 => rfl
      | i + 2 => omega
  rw [hvs]
  refine (h w _ _ hp0 hp1).mono fun e w' h => ?_
  obtain ⟨rfl, hbel⟩ := h
  have hno : ∀ q b, ¬ Fs q b := by
    intro q b hq
    rcases hF q b hq with ⟨g, dp, x, hg | ⟨cs, hg⟩⟩
    all_goals
      simp only [gaAt] at hg
      match hq64 : q / 64 with
      | 0 => rw [hq64] at hg; simp [GA.at] at hg
      | 1 => rw [hq64] at hg; simp [GA.at] at hg
      | k + 2 => rw [hq64] at hg; simp at hg
  refine ⟨.int .i64 n, [.one (.d (.sc (.int .i64 n)))], ⟨fun _ => .sl 0 [], fun _ => []⟩, fun _ _ => False, rfl, rfl, ⟨hbel.1.os, hbel.1.tape, hbel.1.output, hbel.1.size, fun k hk _ => hbel.1.block k hk, hbel.2⟩, ⟨by simp, by simp, by simp⟩, ⟨#[.int .i64 n], rfl, rfl, fun t a u ha hu => ?_⟩, fun t k g v p u hg hv hp hu => ?_⟩
  · cases t with
    | zero => simp at ha hu; subst ha; subst hu; exact .sc _ rfl
    | succ t => simp at ha
  · match t with
    | 0 =>
      simp at hg; subst hg
      simp only [GA.at] at hp
      split at hp
      · simp at hp; subst hp; trivial
      · simp at hp
    | 1 =>
      simp at hg; subst hg
      simp only [GA.at] at hp
      split at hp
      · simp at hp; subst hp; trivial
      · simp at hp
    | t + 2 => simp at hg
end Hearth

/- More of the program's records, as data: slots, caches, leases, houses, wants, messages, transactions. -/
namespace Hearth
open Go
section
variable {α : Type}
def encL (sz : Nat) (f : α → List DV) (l : List α) : DV := .sl sz (l.map f)
theorem len_encL (sz : Nat) (f : α → List DV) (l : List α) : (encL sz f l).len = l.length := by simp [encL, DV.len]
theorem row_encL (sz : Nat) (f : α → List DV) (l : List α) (i : Nat) (h : i < l.length) : (encL sz f l).row i = f l[i] := by
  unfold DV.row encL DV.rows
  rw [List.getD_eq_getElem?_getD, List.getElem?_map, List.getElem?_eq_getElem h]
  rfl
theorem at_encL (sz : Nat) (f : α → List DV) (l : List α) (i j : Nat) (h : i < l.length) : (encL sz f l).at i j = (f l[i]).getD j (.sl 0 []) := by
  have := row_encL sz f l i h
  unfold DV.row at this
  unfold DV.at
  rw [this]
theorem setCell_encL (sz : Nat) (f : α → List DV) (l : List α) (i j : Nat) (r' : α) (d : DV) (h : i < l.length) (hr : (f l[i]).set j d = f r') : (encL sz f l).setCell i j d = encL sz f (l.set i r') := by
  have := row_encL sz f l i h
  unfold DV.row at this
  unfold DV.setCell
  rw [this, hr]
  simp [encL, DV.rows, DV.esz, List.map_set]
theorem setRow_encL (sz : Nat) (f : α → List DV) (l : List α) (i off : Nat) (r' : α) (ds : List DV) (h : i < l.length) (hr : (f l[i]).take off ++ ds ++ (f l[i]).drop (off + ds.length) = f r') : setRow (encL sz f l) i off ds = encL sz f (l.set i r') := by
  have := row_encL sz f l i h
  unfold setRow
  rw [this, hr]
  simp [encL, DV.rows, DV.esz, List.map_set]
theorem row_encLS (sz : Nat) (f : α → List DV) (l : List α) (i : Nat) (r : α) (h : i < l.length) : (encL sz f (l.set i r)).row i = f r := by
  rw [row_encL sz f _ i (by simpa using h)]; simp
theorem at_encLS (sz : Nat) (f : α → List DV) (l : List α) (i j : Nat) (r : α) (h : i < l.length) : (encL sz f (l.set i r)).at i j = (f r).getD j (.sl 0 []) := by
  rw [at_encL sz f _ i j (by simpa using h)]; simp
theorem setCell_encLS (sz : Nat) (f : α → List DV) (l : List α) (i j : Nat) (r r' : α) (d : DV) (h : i < l.length) (hr : (f r).set j d = f r') : (encL sz f (l.set i r)).setCell i j d = encL sz f (l.set i r') := by
  rw [setCell_encL sz f _ i j r' d (by simpa using h) (by simpa using hr)]; simp
theorem setRow_encLS (sz : Nat) (f : α → List DV) (l : List α) (i off : Nat) (r r' : α) (ds : List DV) (h : i < l.length) (hr : (f r).take off ++ ds ++ (f r).drop (off + ds.length) = f r') : setRow (encL sz f (l.set i r)) i off ds = encL sz f (l.set i r') := by
  rw [setRow_encL sz f _ i off r' ds (by simpa using h) (by simpa using hr)]; simp
def cntL (c : α → Nat) : List α → Nat
  | [] => 0
  | r :: l => c r + cntL c l
def markL (c : α → Nat) (m : α → Int → α) : List α → Int → List α
  | [], _ => []
  | r :: l, k => m r k :: markL c m l (k + c r)
variable (c : α → Nat) (m : α → Int → α)
@[simp] theorem cntL_nil : cntL c [] = 0 := rfl
theorem markL_len : ∀ (l : List α) (k : Int), (markL c m l k).length = l.length
  | [], _ => rfl
  | _ :: l, k => by simp [markL, markL_len l]
theorem cntL_append : ∀ (l l' : List α), cntL c (l ++ l') = cntL c l + cntL c l'
  | [], _ => by simp [cntL]
  | r :: l, l' => by simp only [List.cons_append, cntL, cntL_append l l']; omega
theorem markL_append : ∀ (l : List α) (r : α) (k : Int), markL c m (l ++ [r]) k = markL c m l k ++ [m r (k + cntL c l)]
  | [], r, k => by simp [markL, cntL]
  | x :: l, r, k => by
    simp only [List.cons_append, markL, markL_append l r, cntL]
    rw [show k + ((c x + cntL c l : Nat) : Int) = k + c x + cntL c l by omega]
theorem cntL_take (l : List α) (i : Nat) (h : i < l.length) : cntL c (l.take (i + 1)) = cntL c (l.take i) + c l[i] := by
  rw [← List.take_append_getElem h, cntL_append]; simp [cntL]
theorem cntL_le (l : List α) (i : Nat) : cntL c (l.take i) ≤ cntL c l := by
  have := congrArg (cntL c) (List.take_append_drop i l)
  rw [cntL_append] at this; omega
theorem markL_get : ∀ (l : List α) (k : Int) (i : Nat) (h : i < (markL c m l k).length) (h' : i < l.length), (markL c m l k)[i] = m l[i] (k + cntL c (l.take i))
  | r :: l, k, 0, _, _ => by simp [markL, cntL]
  | r :: l, k, i + 1, h, h' => by
    simp only [markL, List.getElem_cons_succ, List.take_succ_cons, cntL]
    rw [markL_get l _ i (by simpa [markL] using h) (by simpa using h')]
    congr 1; omega
theorem cntL_mem {l : List α} {r : α} (h : r ∈ l) : c r ≤ cntL c l := by
  induction l with
  | nil => cases h
  | cons x l ih =>
    simp only [cntL]
    rcases List.mem_cons.1 h with rfl | h
    · omega
    · have := ih h; omega
theorem set_selfL (l : List α) (i : Nat) (h : i < l.length) : l.set i l[i] = l := by simp
end
structure Slot where
  name : List (List UInt8)
  ty : Int
  kind : Int
  rrs : List Rr
  rank : Int
  til : Int
  used : Int
  deriving DecidableEq
def Slot.cells (s : Slot) : List DV := [encBB s.name, .sc (.int .i64 s.ty), .sc (.int .i64 s.kind), encR s.rrs, .sc (.int .i64 s.rank), .sc (.int .i64 s.til), .sc (.int .i64 s.used)]
abbrev encS (l : List Slot) : DV := encL 7 Slot.cells l
structure SmallS (s : Slot) : Prop where
  n : SmallBB s.name
  r : SmallRs s.rrs
structure SmallSs (l : List Slot) : Prop where
  len : l.length ≤ 4194304
  mem : ∀ s ∈ l, SmallS s
structure BigS (s : Slot) : Prop where
  n : BigBB s.name
  r : BigRs s.rrs
structure BigSs (l : List Slot) : Prop where
  len : (l.length : Int) ≤ 9223372036854775807
  mem : ∀ s ∈ l, BigS s
def costS (s : Slot) : Nat := costBB s.name + (s.rrs.length + costRs s.rrs)
abbrev costSs (l : List Slot) : Nat := cntL costS l
theorem SmallS.ofCost {s : Slot} (h : costS s ≤ 1048576) : SmallS s := by unfold costS at h; exact ⟨.ofCost (by omega), .ofCost (by omega)⟩
theorem SmallSs.ofCost {l : List Slot} (h : l.length + costSs l ≤ 1048576) : SmallSs l :=
  ⟨by omega, fun s hs => .ofCost (by have := cntL_mem costS hs; unfold costSs at h; omega)⟩
def cntS (s : Slot) : Nat := s.name.flatten.length + 5 + cntRs s.rrs
def markS (s : Slot) (k : Int) : Slot := ⟨markss s.name k, k + (s.name.flatten.length : Int), k + (s.name.flatten.length : Int) + 1, markRs s.rrs (k + (s.name.flatten.length : Int) + 1 + 1), k + (s.name.flatten.length : Int) + 1 + 1 + (cntRs s.rrs : Int), k + (s.name.flatten.length : Int) + 1 + 1 + (cntRs s.rrs : Int) + 1, k + (s.name.flatten.length : Int) + 1 + 1 + (cntRs s.rrs : Int) + 1 + 1⟩
abbrev cntSs (l : List Slot) : Nat := cntL cntS l
abbrev markSs (l : List Slot) (k : Int) : List Slot := markL cntS markS l k
theorem cntS_le (s : Slot) : cntS s ≤ 4 * costS s + 5 := by have := cntBB_le s.name; have := cntRs_cost s.rrs; unfold cntS costS; unfold cntBB at *; omega
theorem cntSs_cost : ∀ l : List Slot, cntSs l ≤ 4 * costSs l + 5 * l.length
  | [] => by simp
  | s :: l => by have := cntS_le s; have := cntSs_cost l; simp only [cntSs, costSs, cntL, List.length_cons] at *; omega
structure Cache where
  now : Int
  turn : Int
  slots : List Slot
  deriving DecidableEq
def Cache.cells (c : Cache) : List DV := [.sc (.int .i64 c.now), .sc (.int .i64 c.turn), encS c.slots]
def setAt (l : List Rr) (i : Nat) : Bool := if h : i < l.length then decide (l[i].name = (l[0]'(by omega)).name) && decide (l[i].ty = (l[0]'(by omega)).ty) && decide (l[i].ttl = (l[0]'(by omega)).ttl) && prevB l i else true
def isSetR (l : List Rr) : Bool := decide (0 < l.length) && rrsOk l && (List.range l.length).all (setAt l)
theorem setAt_eq {l : List Rr} {i : Nat} (h : i < l.length) (h0 : 0 < l.length) : setAt l i = (decide (l[i].name = l[0].name) && decide (l[i].ty = l[0].ty) && decide (l[i].ttl = l[0].ttl) && prevB l i) := by
  unfold setAt; rw [dif_pos h]
theorem set_no {l : List Rr} {i : Nat} (h : i < l.length) (hz : setAt l i = false) : isSetR l = false := by
  unfold isSetR
  have : (List.range l.length).all (setAt l) = false := by
    rw [List.all_eq_false]; exact ⟨i, List.mem_range.2 h, by simp [hz]⟩
  rw [this]; simp
theorem cmpN_z {a b : List (List UInt8)} : cmpN a b = 0 ↔ a = b := by
  have := cmpN_zero a b
  constructor
  · intro h; rw [h] at this; simpa using this.symm
  · intro h; rw [decide_eq_true h] at this; simpa using this
theorem isSetR_len {l : List Rr} (h : isSetR l = true) : 0 < l.length ∧ l.length ≤ 12 := by
  unfold isSetR rrsOk at h
  simp only [Bool.and_eq_true, decide_eq_true_eq] at h
  exact ⟨h.1.1, by have := h.1.2.1; omega⟩
theorem set_no2 {l : List Rr} {i : Nat} (h : i < l.length) (hz : rrOk l[i] = false) : isSetR l = false := by
  unfold isSetR rrsOk
  have : l.all rrOk = false := by
    rw [List.all_eq_false]; exact ⟨_, List.getElem_mem h, by simp [hz]⟩
  rw [this]; simp
theorem set_yes {l : List Rr} (h0 : 0 < l.length) (h1 : l.length ≤ 12) (hr : l.all rrOk = true) (hz : (List.range l.length).all (setAt l) = true) : isSetR l = true := by
  unfold isSetR rrsOk
  rw [hr, hz, decide_eq_true h0, decide_eq_true (show (l.length : Int) ≤ 12 by omega)]; rfl
theorem all_take_succ {α : Type} (f : α → Bool) {l : List α} {i : Nat} (h : i < l.length) (hr : (l.take i).all f = true) (hz : f l[i] = true) : (l.take (i + 1)).all f = true := by
  rw [← List.take_append_getElem h, List.all_append, hr]; simp [hz]
def cmpS (a b : Slot) : Int := if cmpN a.name b.name = 0 then cmpI a.ty b.ty else cmpN a.name b.name
theorem cmpS_or (a b : Slot) : cmpS a b = orL [cmpN a.name b.name, cmpI a.ty b.ty] := by
  unfold cmpS orL
  by_cases h : cmpN a.name b.name = 0 <;> by_cases h2 : cmpI a.ty b.ty = 0 <;> simp [orL, h, h2]
def hitOk (s : Slot) : Bool := if s.kind = 1 then isSetR s.rrs && decide ((s.rrs.getD 0 emptyR).name = s.name) && decide ((s.rrs.getD 0 emptyR).ty = s.ty) else decide (s.rrs.length = 0)
def slotOk (now turn : Int) (s : Slot) : Bool :=
  nameOk s.name && tyOk s.ty && decide (1 ≤ s.kind ∧ s.kind ≤ 3) && decide (0 ≤ s.rank ∧ s.rank ≤ 3) && decide (now + 1 ≤ s.til ∧ s.til ≤ now + 1000) && decide (1 ≤ s.used ∧ s.used ≤ turn) && hitOk s
def prevS (l : List Slot) (i : Nat) : Bool := if h : 0 < i ∧ i < l.length then decide (cmpS (l[i - 1]'(by omega)) (l[i]'(by omega)) < 0) else true
def sAt (l : List Slot) (i : Nat) : Bool := if h : i < l.length then prevS l i && !((l.take i).any fun o => o.used == l[i].used) else true
def cacheOk (c : Cache) : Bool := decide (0 ≤ c.now ∧ c.now ≤ 1000000) && decide (0 ≤ c.turn ∧ c.turn ≤ 1000000) && decide (c.slots.length ≤ 8) && c.slots.all (slotOk c.now c.turn) && (List.range c.slots.length).all (sAt c.slots)
theorem prevS_pos {l : List Slot} {i : Nat} (h0 : 0 < i) (h : i < l.length) (h' : ((i : Int) - 1).toNat < l.length) : prevS l i = decide (cmpS (l[((i : Int) - 1).toNat]) l[i] < 0) := by
  have e : ((i : Int) - 1).toNat = i - 1 := by omega
  simp only [prevS, e]
  rw [dif_pos ⟨h0, h⟩]
theorem prevS_zero {l : List Slot} : prevS l 0 = true := by simp [prevS]
theorem sAt_eq {l : List Slot} {i : Nat} (h : i < l.length) : sAt l i = (prevS l i && !((l.take i).any fun o => o.used == l[i].used)) := by
  unfold sAt; rw [dif_pos h]
theorem cache_no {c : Cache} {i : Nat} (h : i < c.slots.length) (hz : sAt c.slots i = false) : cacheOk c = false := by
  unfold cacheOk
  have : (List.range c.slots.length).all (sAt c.slots) = false := by
    rw [List.all_eq_false]; exact ⟨i, List.mem_range.2 h, by simp [hz]⟩
  rw [this]; simp
theorem cache_no2 {c : Cache} {i : Nat} (h : i < c.slots.length) (hz : slotOk c.now c.turn c.slots[i] = false) : cacheOk c = false := by
  unfold cacheOk
  have : c.slots.all (slotOk c.now c.turn) = false := by
    rw [List.all_eq_false]; exact ⟨_, List.getElem_mem h, by simp [hz]⟩
  rw [this]; simp
def nmStep (out : List (List (List UInt8))) (s : Slot) : List (List (List UInt8)) := if out.getLast? = some s.name then out else out ++ [s.name]
def namesS (l : List Slot) : List (List (List UInt8)) := l.foldl nmStep []
theorem nmStep_len (out : List (List (List UInt8))) (s : Slot) : (nmStep out s).length ≤ out.length + 1 := by
  unfold nmStep; split <;> simp
theorem namesS_len (l : List Slot) : (namesS l).length ≤ l.length := by
  have key : ∀ (l : List Slot) (out : List (List (List UInt8))), (l.foldl nmStep out).length ≤ out.length + l.length := by
    intro l
    induction l with
    | nil => intro out; simp
    | cons s l ih => intro out; have := ih (nmStep out s); have := nmStep_len out s; simp only [List.foldl_cons, List.length_cons]; omega
  have := key l []
  simpa [namesS] using this
theorem namesS_mem (l : List Slot) : ∀ n ∈ namesS l, ∃ s ∈ l, s.name = n := by
  have key : ∀ (l : List Slot) (out : List (List (List UInt8))), ∀ n ∈ l.foldl nmStep out, n ∈ out ∨ ∃ s ∈ l, s.name = n := by
    intro l
    induction l with
    | nil => intro out n hn; exact .inl hn
    | cons s l ih =>
      intro out n hn
      rcases ih _ n hn with h | ⟨s', h1, h2⟩
      · unfold nmStep at h
        split at h
        · exact .inl h
        · rcases List.mem_append.1 h with h | h
          · exact .inl h
          · simp at h; exact .inr ⟨s, List.mem_cons_self .., h.symm⟩
      · exact .inr ⟨s', List.mem_cons_of_mem _ h1, h2⟩
  intro n hn
  rcases key l [] n hn with h | h
  · cases h
  · exact h
def namesN (c : Cache) : List (List (List UInt8)) := if cacheOk c then namesS c.slots else []
structure SmallNs (l : List (List (List UInt8))) : Prop where
  len : l.length ≤ 4194304
  mem : ∀ n ∈ l, SmallBB n
theorem SmallNs.names {c : Cache} (h : SmallSs c.slots) : SmallNs (namesN c) := by
  unfold namesN
  split
  · refine ⟨Nat.le_trans (namesS_len _) h.len, fun n hn => ?_⟩
    obtain ⟨s, h1, rfl⟩ := namesS_mem _ n hn
    exact (h.mem s h1).n
  · exact ⟨Nat.zero_le _, nofun⟩
theorem SmallSs.filter {l : List Slot} (h : SmallSs l) (f : Slot → Bool) : SmallSs (l.filter f) := ⟨Nat.le_trans (List.length_filter_le _ _) h.len, fun r hr => h.mem r (List.mem_filter.1 hr).1⟩
theorem SmallSs.nil : SmallSs [] := ⟨Nat.zero_le _, nofun⟩
structure Lease where
  ip : Int
  client : List UInt8
  host : List UInt8
  til : Int
  won : Bool
  deriving DecidableEq
def Lease.cells (l : Lease) : List DV := [.sc (.int .i64 l.ip), encB l.client, encB l.host, .sc (.int .i64 l.til), .sc (.bool l.won)]
abbrev encE (l : List Lease) : DV := encL 5 Lease.cells l
structure House where
  now : Int
  zone : Zone
  rev : Zone
  leases : List Lease
  deriving DecidableEq
def House.cells (h : House) : List DV := [.sc (.int .i64 h.now), encBB h.zone.origin, encR h.zone.rrs, encBB h.rev.origin, encR h.rev.rrs, encE h.leases]
section
variable {P : Program} {k : List It} {Q : Ex → St → Prop} {s : St} {d : Option Nat} {q : Bool} {r : T} {oi : Nat} {tags : List Nat}
theorem kAppSlot {e bytes : Nat} {x y : X} {cx cy : AC} {dp dp' : Bool} {ids : List Nat} {id v ve : Nat} {vk : OK} {l : List Slot} {nm : List (List UInt8)} {ty ki rk ti us : Int} {rs : List Rr} (hx : s.ev x = .c cx) (hy : s.ev y = .c cy) (hb : s.base cx = some (dp, .sl 7 (l.map Slot.cells)))
    (hs : s.src cy = some (dp', .sl 7 [[encBB nm, .sc (.int .i64 ty), .sc (.int .i64 ki), encR rs, .sc (.int .i64 rk), .sc (.int .i64 ti), .sc (.int .i64 us)]], ids)) (hid : cx.ownId e = id) (hob : s.ob id = ⟨v, ve, vk⟩)
    (hh : (!s.hold.contains id && ids.all (fun j => !s.hold.contains j) && !ids.contains id && notMe id cy) = true)
    (hlen : (l.length + 1) * bytes ≤ 140737488355328 ∧ l.length + 1 ≤ 9223372036854775807)
    (h : kont P (.t r tags :: k) Q .normal (((s.kill ids).setOb id ⟨v + 1, 0, .arr (dp && dp') (encS (l ++ [⟨nm, ty, ki, rs, rk, ti, us⟩]))⟩).put d (.c (.arr id (v + 1))))) : kont P (.t (.op oi [] d none q (.app e 7 bytes x y) r) tags :: k) Q .normal s :=
  kAppR1 (f := Slot.cells) (z := ⟨nm, ty, ki, rs, rk, ti, us⟩) hx hy hb hs hid hob rfl hh hlen h
end
def endT (t : Task) (c : Int) : Task := { t with state := 1, code := c, answers := if c ≠ 0 ∧ c ≠ 3 then [] else t.answers }
def sentT (t : Task) : Task := if t.sends + 1 ≥ 12 then endT { t with sends := t.sends + 1 } 2 else { t with sends := t.sends + 1 }
def nextT (t : Task) : Task := { t with turn := (t.turn + 1).tmod t.servers.length }
def lostT (t : Task) : Task := nextT (sentT t)
theorem SmallT.sent {t : Task} (h : SmallT t) : SmallT (sentT t) := by
  unfold sentT endT
  split
  · exact ⟨h.f, h.n, h.z, h.h, h.s, .nil⟩
  · exact ⟨h.f, h.n, h.z, h.h, h.s, h.a⟩
theorem SmallT.next {t : Task} (h : SmallT t) : SmallT (nextT t) := ⟨h.f, h.n, h.z, h.h, h.s, h.a⟩
theorem SmallT.lost {t : Task} (h : SmallT t) : SmallT (lostT t) := h.sent.next
end Hearth

/- Draws: what they tell is of a kind; names that are read. -/
namespace Hearth
open Go
section
variable {P : Program} {k : List It} {Q : Ex → St → Prop} {s : St} {r : T} {d : Option Nat} {q : Bool} {oi : Nat} {tags : List Nat}
end
theorem nameOk_len {n : List (List UInt8)} (h : nameOk n = true) : n.length ≤ 6 := by
  unfold nameOk at h; simp at h; omega
theorem flat_mul {n : List (List UInt8)} {m : Nat} (h : ∀ b ∈ n, b.length ≤ m) : n.flatten.length ≤ n.length * m := by
  induction n with
  | nil => simp
  | cons x n ih =>
    have h1 := h x (List.mem_cons_self ..)
    have h2 := ih fun b hb => h b (List.mem_cons_of_mem _ hb)
    simp only [List.flatten_cons, List.length_append, List.length_cons, Nat.add_mul]
    omega
theorem nameOk_mem {n : List (List UInt8)} (h : nameOk n = true) : ∀ b ∈ n, 1 ≤ b.length ∧ b.length ≤ 15 := by
  intro b hb
  unfold nameOk at h
  simp only [Bool.and_eq_true, decide_eq_true_eq] at h
  have := List.all_eq_true.1 h.2 b hb
  unfold labelOk at this
  simp only [Bool.and_eq_true, decide_eq_true_eq] at this
  omega
theorem nameOk_flat {n : List (List UInt8)} (h : nameOk n = true) : n.flatten.length ≤ 90 := by
  have h6 := nameOk_len h
  have := flat_mul (m := 15) fun b hb => (nameOk_mem h b hb).2
  have : n.length * 15 ≤ 6 * 15 := Nat.mul_le_mul_right _ h6
  omega
theorem SmallBB.ok {n : List (List UInt8)} (h : nameOk n = true) : SmallBB n := by
  have h6 := nameOk_len h
  have := nameOk_flat h
  exact ⟨by omega, fun b hb => by have := nameOk_mem h b hb; omega, by omega⟩
end Hearth
namespace Hearth
open Go
end Hearth
namespace Hearth
open Go
end Hearth
namespace Hearth
theorem SmallBB.bent {l : List (List UInt8)} (h : l.length ≤ 7 ∧ ∀ b ∈ l, b.length ≤ 64) : SmallBB l := by
  have := flat_mul (m := 64) h.2
  have : l.length * 64 ≤ 7 * 64 := Nat.mul_le_mul_right _ h.1
  exact ⟨by omega, fun b hb => by have := h.2 b hb; omega, by omega⟩
end Hearth
namespace Hearth
end Hearth
namespace Hearth
end Hearth
namespace Hearth
end Hearth
namespace Hearth
section
open Go
variable {α : Type} {P : Program} {k : List It} {Q : Ex → St → Prop} {s : St} {d : Option Nat} {q : Bool} {r : T} {oi : Nat} {tags : List Nat} {f : α → List DV} {l : List α} {sz : Nat}
end
end Hearth

/- Bytes looked for, counted, split. -/
namespace Hearth
open Go Go.RowKit
section
variable {α : Type} {P : Program} {k : List It} {Q : Ex → St → Prop} {s : St} {d : Option Nat} {q : Bool} {r : T} {oi : Nat} {tags : List Nat} {f : α → List DV} {l : List α} {sz : Nat}
end
section
variable {P : Program} {k : List It} {Q : Ex → St → Prop} {s : St} {d : Option Nat} {q : Bool} {r : T} {oi : Nat} {tags : List Nat}
end
section
variable {α : Type} {P : Program} {k : List It} {Q : Ex → St → Prop} {s : St} {d : Option Nat} {q : Bool} {r : T} {oi : Nat} {tags : List Nat} {f : α → List DV} {l : List α} {sz : Nat}
variable {e bytes : Nat} {x y : X} {cx cy : AC} {dp dp' : Bool} {ids : List Nat} {id v ve : Nat} {vk : OK}
end
section
variable {P : Program} {k : List It} {Q : Ex → St → Prop} {s : St} {r : T} {d : Option Nat} {q : Bool} {oi : Nat} {tags : List Nat}
end
end Hearth

/- The abstract machine: a variable's row under another name. -/
namespace Hearth
open Go
end Hearth

/- The abstract machine: a variable's own row turned to data. -/
namespace Hearth
open Go
variable {P : Program} {N : Nat} {w0 : World} {own0 : Nat → Nat → Prop} {hdr0 : Nat → Value} {Fr : List ((Nat → Prop) × World)} {own : Nat → Nat → Prop} {hdr : Nat → Value} {s : St} {a : Act} {w : World}
theorem Sub.flat {s : St} (id : Nat) {ver ev : Nat} {dp : Bool} {x : DV} (ho : s.ob id = ⟨ver, ev, .arr dp x⟩) (hv : Nat.ble 1 ver = true) : Sub s ⟨s.sl, upd s.ob id ⟨ver, ev + 1, .flat x⟩, []⟩ := by
  have hv := Nat.le_of_ble_eq_true hv
  rintro P N w0 own0 hdr0 a w ⟨own, hdr, r0⟩
  have r := r0.hold []
  have hk : (({ s with hold := [] } : St).ob id).k = .arr dp x := by show (s.ob id).k = _; rw [ho]
  have hver : (s.ob id).ver = ver := by rw [ho]
  have hev : (s.ob id).ev = ev := by rw [ho]
  obtain ⟨hsl, ht⟩ := r.arrAt hk
  have main : ∃ F : Nat → Prop, (∀ b, F b → own id b) ∧ (Top w (Free w (ownTo own id [] F)) false x.esz x.rows (hdr id) F) ∧
      ∀ (i j : Nat) (cs : List DV) (d : DV), x.rows[i]? = some cs → cs[j]? = some d → ∃ u, SubAt w (hdr id) x.esz i j u ∧ Pers w (Free w (ownTo own id [] F)) d u := by
    rcases ht with ⟨h1, h2⟩ | ⟨b, cap, cur, e, us, Fs, h1, h2, h3, h4, h5, h6, h7, h8, h9, h10, h11⟩
    · refine ⟨fun _ => False, nofun, .inl ⟨h1, h2⟩, fun i j cs d hi _ => ?_⟩
      rw [h1] at hi; simp at hi
    · have free : ∀ c, (Free w own c ∨ (own id c ∧ c ≠ b)) → Free w (ownTo own id [] (fun c => c = b)) c := by
        rintro c (hc | ⟨hc, hcb⟩)
        · refine ⟨hc.1, fun k hk => ?_⟩
          simp only [ownTo] at hk
          split at hk
          · subst hk; exact hc.2 id h3
          · simp at hk; exact hc.2 k hk
        · refine ⟨r.lt id c hc, fun k hk => ?_⟩
          simp only [ownTo] at hk
          split at hk
          · exact hcb hk
          · rename_i hne
            simp at hk
            exact hne (r.dis k id c hk hc)
      have hp : ∀ (i j : Nat) (cs : List DV) (d : DV), x.rows[i]? = some cs → cs[j]? = some d → Pers w (Free w (ownTo own id [] (fun c => c = b))) d (us i j) := fun i j cs d hi hj =>
        (h11 i j cs d hi hj).toPers (fun c hc => free c (.inl hc)) (fun c hc => free c (.inr ⟨(h9 i j c hc).1, (h9 i j c hc).2⟩))
      refine ⟨fun c => c = b, fun c hc => by rw [hc]; exact h3, .inr ⟨b, cap, cur, e, us, fun _ _ _ => False, h1, h2, rfl, h4, h5, h6, h7, h8, nofun, nofun, fun i j cs d hi hj => .pers _ _ _ rfl (hp i j cs d hi hj)⟩, fun i j cs d hi hj => ⟨us i j, ?_, hp i j cs d hi hj⟩⟩
      refine ⟨b, x.rows.length, cap, h1, (List.getElem?_eq_some_iff.1 hi).1, ?_, ?_⟩
      · rw [← h7 i cs hi]; exact (List.getElem?_eq_some_iff.1 hj).1
      · simp [World.cell?, h2, h8 i j cs d hi hj]
  obtain ⟨F, f1, f2, f3⟩ := main
  have h := r.turn (id := id) (ids := []) (k := .flat x) (ev := (s.ob id).ev + 1) (F := F) (w' := w) ⟨r.ne_al (by rw [hk]; simp), by simp⟩ (by simp) (by simp) (by simp) (Ext.refl _ _)
    (fun b hb => ⟨id, .inl rfl, f1 b hb⟩) (fun h => by have : (s.ob id).ver = 0 := h; omega) (Nat.le_succ _) (by rw [hk]; rfl) (fun h => by have : (s.ob id).ev + 1 = (s.ob id).ev := h; omega) (fun rc => by
    unfold RO
    simp only [St.setOb, upd_same]
    have e1 : hdrTo hdr id [] (hdr id) id = hdr id := by simp [hdrTo]
    have e2 : ownTo own id [] F id = F := by simp [ownTo]
    rw [e1, e2]
    exact ⟨⟨hsl, f2⟩, f3⟩)
  rw [St.kill_nil] at h
  have h2 := h.1.hold []
  have e : ({ s with hold := [] } : St).ob id = s.ob id := rfl
  simp only [St.setOb, e, hver, hev] at h2
  exact ⟨_, _, h2⟩
section
variable {α : Type} {P : Program} {k : List It} {Q : Ex → St → Prop} {s : St} {r : T} {d : Option Nat} {q : Bool} {oi : Nat} {tags : List Nat} {f : α → List DV} {l : List α} {sz : Nat}
end
end Hearth

/- Zones: a record that is added; zones as draws make them. -/
namespace Hearth
open Go
def ttlR (r x : Rr) : Rr := if x.name = r.name ∧ x.ty = r.ty then { x with ttl := r.ttl } else x
def addSt (r : Rr) (st : List Rr × Bool) (x : Rr) : List Rr × Bool :=
  let o := if st.2 = false ∧ cmpR r x ≤ 0 then st.1 ++ [r] else st.1
  (if cmpR r x = 0 then o else o ++ [ttlR r x], st.2 || decide (cmpR r x ≤ 0))
def addAt (l : List Rr) (r : Rr) : List Rr × Bool := l.foldl (addSt r) ([], false)
def addL (l : List Rr) (r : Rr) : List Rr := if (addAt l r).2 then (addAt l r).1 else (addAt l r).1 ++ [r]
theorem ttlR_ok {r x : Rr} (hr : rrOk r = true) (hx : rrOk x = true) : rrOk (ttlR r x) = true := by
  unfold ttlR
  split
  · unfold rrOk at *
    simp only [Bool.and_eq_true] at *
    exact ⟨⟨hx.1.1, hr.1.2⟩, hx.2⟩
  · exact hx
theorem addAt_mem (l : List Rr) (r : Rr) (q : Rr → Prop) (h1 : q r) (h2 : ∀ x ∈ l, q (ttlR r x)) : ∀ x ∈ (addAt l r).1, q x := by
  have key : ∀ (l : List Rr) (st : List Rr × Bool), (∀ x ∈ l, q (ttlR r x)) → (∀ x ∈ st.1, q x) → ∀ x ∈ (l.foldl (addSt r) st).1, q x := by
    intro l
    induction l with
    | nil => intro st _ h; exact h
    | cons y l ih =>
      intro st hl hs
      refine ih _ (fun x hx => hl x (List.mem_cons_of_mem _ hx)) ?_
      have ho : ∀ x ∈ (if st.2 = false ∧ cmpR r y ≤ 0 then st.1 ++ [r] else st.1), q x := by
        intro x hx
        split at hx
        · rcases List.mem_append.1 hx with hx | hx
          · exact hs x hx
          · simp only [List.mem_singleton] at hx; rw [hx]; exact h1
        · exact hs x hx
      intro x hx
      unfold addSt at hx
      simp only at hx
      split at hx
      · exact ho x hx
      · rcases List.mem_append.1 hx with hx | hx
        · exact ho x hx
        · simp only [List.mem_singleton] at hx; rw [hx]; exact hl y (List.mem_cons_self ..)
  exact key l ([], false) h2 (by simp)
theorem addL_mem (l : List Rr) (r : Rr) (q : Rr → Prop) (h1 : q r) (h2 : ∀ x ∈ l, q (ttlR r x)) : ∀ x ∈ addL l r, q x := by
  have := addAt_mem l r q h1 h2
  unfold addL
  split
  · exact this
  · intro x hx
    rcases List.mem_append.1 hx with hx | hx
    · exact this x hx
    · simp only [List.mem_singleton] at hx; rw [hx]; exact h1
theorem rrOk_small {r : Rr} (h : rrOk r = true) : SmallR r := by
  unfold rrOk at h
  simp only [Bool.and_eq_true, decide_eq_true_eq] at h
  obtain ⟨⟨⟨h1, h2⟩, h3⟩, h4⟩ := h
  unfold dataOk at h4
  simp only [Bool.and_eq_true] at h4
  obtain ⟨⟨⟨k1, k2⟩, k3⟩, k4⟩ := h4
  refine ⟨.ok h1, ?_, ?_, ?_⟩
  · by_cases e : hasTo r.ty = true
    · rw [if_pos e] at k3; exact .ok k3
    · rw [if_neg e] at k3
      simp at k3
      rw [k3]; exact .nil
  · by_cases e : hasText r.ty = true
    · rw [if_pos e] at k4; simp at k4; omega
    · rw [if_neg e] at k4
      simp at k4
      rw [k4]; simp
  · by_cases e : r.ty = 6
    · rw [if_pos (by simpa using e)] at k1
      unfold numsOk at k1
      split at k1
      · omega
      · cases k1
    · rw [if_neg (by simpa using e)] at k1
      simp at k1
      rw [k1]; simp
theorem zoneOk_small {z : Zone} (h : zoneOk z = true) : SmallZ z := by
  have hm := zone_rrs h
  unfold zoneOk at h
  simp only [Bool.and_eq_true, decide_eq_true_eq] at h
  exact ⟨.ok h.1.1.1.1, ⟨by omega, fun r hr => rrOk_small (hm r hr)⟩⟩
theorem zoneOk_pos {z : Zone} (h : zoneOk z = true) : 0 < z.rrs.length ∧ z.rrs.length ≤ 60 := by
  have h2 := topIx_lt h
  unfold zoneOk at h
  simp only [Bool.and_eq_true, decide_eq_true_eq] at h
  omega
end Hearth
namespace Hearth
end Hearth
namespace Hearth
end Hearth
namespace Hearth
end Hearth
namespace Hearth
open Go
section
variable {α : Type} {P : Program} {k : List It} {Q : Ex → St → Prop} {s : St} {d : Option Nat} {q : Bool} {r : T} {oi : Nat} {tags : List Nat} {f : α → List DV} {l : List α} {sz : Nat}
end
end Hearth

/- Records are in order: what orders are, and zones as lists in order. -/
namespace Hearth
open Go
structure Cmp {α : Type} (c : α → α → Int) : Prop where
  neg : ∀ a b, c b a = - c a b
  tr : ∀ a b d, c a b ≤ 0 → c b d ≤ 0 → c a d ≤ 0
namespace Cmp
variable {α β : Type} {c c1 c2 : α → α → Int}
theorem lt_le (h : Cmp c) {a b d : α} (h1 : c a b < 0) (h2 : c b d ≤ 0) : c a d < 0 := by
  have h3 := h.tr a b d (by omega) h2
  rcases Int.lt_or_le (c a d) 0 with h4 | h4
  · exact h4
  · have e := h.neg a d
    have := h.tr b d a h2 (by omega)
    have e2 := h.neg a b
    omega
theorem le_lt (h : Cmp c) {a b d : α} (h1 : c a b ≤ 0) (h2 : c b d < 0) : c a d < 0 := by
  have h3 := h.tr a b d h1 (by omega)
  rcases Int.lt_or_le (c a d) 0 with h4 | h4
  · exact h4
  · have e := h.neg a d
    have := h.tr d a b (by omega) h1
    have e2 := h.neg b d
    omega
theorem lt (h : Cmp c) {a b d : α} (h1 : c a b < 0) (h2 : c b d < 0) : c a d < 0 := h.lt_le h1 (by omega)
theorem zero_both (h : Cmp c) {a b d : α} (h1 : c a b ≤ 0) (h2 : c b d ≤ 0) (h3 : c a d = 0) : c a b = 0 ∧ c b d = 0 := by
  rcases Int.lt_or_le (c a b) 0 with h4 | h4
  · have := h.lt_le h4 h2; omega
  · rcases Int.lt_or_le (c b d) 0 with h5 | h5
    · have := h.le_lt h1 h5; omega
    · exact ⟨by omega, by omega⟩
theorem lex (h1 : Cmp c1) (h2 : Cmp c2) : Cmp (fun a b => if c1 a b = 0 then c2 a b else c1 a b) := by
  refine ⟨fun a b => ?_, fun a b d g1 g2 => ?_⟩
  · have e1 := h1.neg a b
    have e2 := h2.neg a b
    show (if c1 b a = 0 then c2 b a else c1 b a) = - (if c1 a b = 0 then c2 a b else c1 a b)
    by_cases h : c1 a b = 0
    · rw [if_pos h, if_pos (by omega)]; exact e2
    · rw [if_neg h, if_neg (by omega)]; exact e1
  · have g1 : (if c1 a b = 0 then c2 a b else c1 a b) ≤ 0 := g1
    have g2 : (if c1 b d = 0 then c2 b d else c1 b d) ≤ 0 := g2
    show (if c1 a d = 0 then c2 a d else c1 a d) ≤ 0
    have k1 : c1 a b ≤ 0 := by
      by_cases h : c1 a b = 0
      · omega
      · rw [if_neg h] at g1; exact g1
    have k2 : c1 b d ≤ 0 := by
      by_cases h : c1 b d = 0
      · omega
      · rw [if_neg h] at g2; exact g2
    by_cases h : c1 a d = 0
    · obtain ⟨z1, z2⟩ := h1.zero_both k1 k2 h
      rw [if_pos z1] at g1
      rw [if_pos z2] at g2
      rw [if_pos h]
      exact h2.tr a b d g1 g2
    · rw [if_neg h]; exact h1.tr a b d k1 k2
theorem comap (h : Cmp c) (f : β → α) : Cmp (fun a b => c (f a) (f b)) := ⟨fun a b => h.neg _ _, fun a b d => h.tr _ _ _⟩
end Cmp
theorem bl_trans : ∀ {a b c : List UInt8}, Op.bytesLess a b = true → Op.bytesLess b c = true → Op.bytesLess a c = true
  | a, [], _, h, _ => by cases a <;> simp [Op.bytesLess] at h
  | _, b :: _, [], _, h => by simp [Op.bytesLess] at h
  | [], b :: x, c :: y, _, _ => rfl
  | a :: z, b :: x, c :: y, h1, h2 => by
    simp only [Op.bytesLess, Bool.or_eq_true, decide_eq_true_eq, Bool.and_eq_true, beq_iff_eq] at *
    rcases h1 with h1 | ⟨rfl, h1⟩ <;> rcases h2 with h2 | ⟨rfl, h2⟩
    · exact .inl (UInt8.lt_trans h1 h2)
    · exact .inl h1
    · exact .inl h2
    · exact .inr ⟨rfl, bl_trans h1 h2⟩
theorem bl_total : ∀ (a b : List UInt8), Op.bytesLess a b = true ∨ a = b ∨ Op.bytesLess b a = true
  | [], [] => .inr (.inl rfl)
  | [], _ :: _ => .inl rfl
  | _ :: _, [] => .inr (.inr rfl)
  | a :: x, b :: y => by
    simp only [Op.bytesLess, Bool.or_eq_true, decide_eq_true_eq, Bool.and_eq_true, beq_iff_eq]
    rcases (show a < b ∨ a = b ∨ b < a by
      rcases Nat.lt_trichotomy a.toNat b.toNat with h | h | h
      · exact .inl (UInt8.lt_iff_toNat_lt.2 h)
      · exact .inr (.inl (UInt8.toNat_inj.1 h))
      · exact .inr (.inr (UInt8.lt_iff_toNat_lt.2 h))) with h | h | h
    · exact .inl (.inl h)
    · subst h
      rcases bl_total x y with h | h | h
      · exact .inl (.inr ⟨rfl, h⟩)
      · subst h; exact .inr (.inl rfl)
      · exact .inr (.inr (.inr ⟨rfl, h⟩))
    · exact .inr (.inr (.inl h))
theorem bl_asymm {a b : List UInt8} (h : Op.bytesLess a b = true) : Op.bytesLess b a = false := by
  cases e : Op.bytesLess b a with
  | false => rfl
  | true => have := bl_trans h e; rw [bytesLess_irrefl] at this; cases this
theorem cmpB_lt {a b : List UInt8} (h : Op.bytesLess a b = true) : cmpB a b = -1 := by unfold cmpB; rw [if_pos h]
theorem cmpB_gt {a b : List UInt8} (h : Op.bytesLess b a = true) : cmpB a b = 1 := by
  have h1 := bl_asymm h
  have hne : a ≠ b := by rintro rfl; rw [bytesLess_irrefl] at h; cases h
  unfold cmpB; rw [if_neg (by simp [h1]), if_pos (by simp [h1, hne])]
theorem cmpB_self (a : List UInt8) : cmpB a a = 0 := (cmpB_iff a a).2 rfl
theorem cmpB_cmp : Cmp cmpB := by
  refine ⟨fun a b => ?_, fun a b d h1 h2 => ?_⟩
  · rcases bl_total a b with h | h | h
    · rw [cmpB_lt h, cmpB_gt h]; rfl
    · subst h; rw [cmpB_self]; rfl
    · rw [cmpB_lt h, cmpB_gt h]
  · rcases bl_total a b with h | h | h
    · rcases bl_total b d with g | g | g
      · rw [cmpB_lt (bl_trans h g)]; decide
      · subst g; rw [cmpB_lt h]; decide
      · rw [cmpB_gt g] at h2; omega
    · subst h; exact h2
    · rw [cmpB_gt h] at h1; omega
theorem cmpL_neg : ∀ (a b : List (List UInt8)), cmpL b a = - cmpL a b
  | [], [] => rfl
  | [], _ :: _ => rfl
  | _ :: _, [] => rfl
  | x :: a, y :: b => by
    have h := cmpB_cmp.neg x y
    simp only [cmpL]
    by_cases e : cmpB x y = 0
    · rw [if_pos e, if_pos (by omega)]; exact cmpL_neg a b
    · rw [if_neg e, if_neg (by omega)]; exact h
theorem cmpL_tr : ∀ (a b d : List (List UInt8)), cmpL a b ≤ 0 → cmpL b d ≤ 0 → cmpL a d ≤ 0
  | [], _, [], _, _ => by simp [cmpL]
  | [], _, _ :: _, _, _ => by simp [cmpL]
  | _ :: _, [], _, h, _ => by simp [cmpL] at h
  | _ :: _, _ :: _, [], _, h => by simp [cmpL] at h
  | x :: a, y :: b, z :: d, h1, h2 => by
    simp only [cmpL] at *
    have k1 : cmpB x y ≤ 0 := by
      by_cases h : cmpB x y = 0
      · omega
      · rw [if_neg h] at h1; exact h1
    have k2 : cmpB y z ≤ 0 := by
      by_cases h : cmpB y z = 0
      · omega
      · rw [if_neg h] at h2; exact h2
    by_cases h : cmpB x z = 0
    · obtain ⟨z1, z2⟩ := cmpB_cmp.zero_both k1 k2 h
      rw [if_pos z1] at h1
      rw [if_pos z2] at h2
      rw [if_pos h]
      exact cmpL_tr a b d h1 h2
    · rw [if_neg h]; exact cmpB_cmp.tr _ _ _ k1 k2
theorem cmpN_cmp : Cmp cmpN := (Cmp.mk cmpL_neg cmpL_tr).comap List.reverse
theorem cmpI_cmp : Cmp cmpI := by
  refine ⟨fun a b => ?_, fun a b d h1 h2 => ?_⟩
  · unfold cmpI; split <;> split <;> omega
  · unfold cmpI at *
    split at h1 <;> split at h2 <;> (try split at h1) <;> (try split at h2) <;> split <;> (try split) <;> omega
theorem cmpR_cmp : Cmp cmpR := (cmpN_cmp.comap Rr.name).lex ((cmpI_cmp.comap Rr.ty).lex (cmpB_cmp.comap rdata))
def Sorted (l : List Rr) : Prop := l.Pairwise fun a b => cmpR a b < 0
theorem sorted_of_prev {l : List Rr} (h : ∀ i < l.length, prevB l i = true) : Sorted l := by
  have step : ∀ i (hi : i + 1 < l.length), cmpR l[i] l[i + 1] < 0 := by
    intro i hi
    have := h (i + 1) hi
    unfold prevB at this
    rw [dif_pos ⟨by omega, hi⟩] at this
    simpa using this
  have far : ∀ (k i : Nat) (hk : i + k + 1 < l.length), cmpR l[i] l[i + k + 1] < 0 := by
    intro k
    induction k with
    | zero => intro i hk; exact step i hk
    | succ k ih =>
      intro i hk
      exact cmpR_cmp.lt (ih i (by omega)) (step (i + k + 1) (by omega))
  unfold Sorted
  rw [List.pairwise_iff_getElem]
  intro i j hi hj hij
  have := far (j - i - 1) i (by omega)
  have e : i + (j - i - 1) + 1 = j := by omega
  simp only [e] at this
  exact this
theorem prev_of_sorted {l : List Rr} (h : Sorted l) (i : Nat) : prevB l i = true := by
  unfold prevB
  split
  · rename_i hi
    unfold Sorted at h
    rw [List.pairwise_iff_getElem] at h
    exact decide_eq_true (h (i - 1) i (by omega) hi.2 (by omega))
  · rfl
structure ZoneP (z : Zone) : Prop where
  o : nameOk z.origin = true
  len : z.rrs.length ≤ 60
  ok : ∀ r ∈ z.rrs, rrOk r = true
  sorted : Sorted z.rrs
  under : ∀ r ∈ z.rrs, underN r.name z.origin = true
  top : ∀ r ∈ z.rrs, r.ty = 6 → r.name = z.origin
  alone : ∀ r ∈ z.rrs, r.ty = 5 → (setOf z.rrs r.name 255).length ≤ 1
  one : zTops z.rrs = 1
theorem zoneP {z : Zone} : zoneOk z = true ↔ ZoneP z := by
  constructor
  · intro h
    have hm := zone_rrs h
    unfold zoneOk at h
    simp only [Bool.and_eq_true, decide_eq_true_eq, List.all_eq_true, List.mem_range] at h
    obtain ⟨⟨⟨⟨h1, h2⟩, h3⟩, h4⟩, h5⟩ := h
    have at_ : ∀ i (hi : i < z.rrs.length), underN z.rrs[i].name z.origin = true ∧ prevB z.rrs i = true ∧ aloneR z.rrs i = true ∧ (z.rrs[i].ty = 6 → z.rrs[i].name = z.origin) := by
      intro i hi
      have := h4 i hi
      rw [zAt_eq hi] at this
      simp only [Bool.and_eq_true, Bool.or_eq_true, Bool.not_eq_true', beq_eq_false_iff_ne, decide_eq_true_eq] at this
      exact ⟨this.1.1.1, this.1.1.2, this.1.2, fun e => this.2.resolve_left fun h => h e⟩
    refine ⟨h1, h2, hm, sorted_of_prev fun i hi => (at_ i hi).2.1, fun r hr => ?_, fun r hr => ?_, fun r hr h5 => ?_, h5⟩
    · obtain ⟨i, hi, rfl⟩ := List.mem_iff_getElem.1 hr
      exact (at_ i hi).1
    · obtain ⟨i, hi, rfl⟩ := List.mem_iff_getElem.1 hr
      exact (at_ i hi).2.2.2
    · obtain ⟨i, hi, rfl⟩ := List.mem_iff_getElem.1 hr
      have := (at_ i hi).2.2.1
      rw [aloneR_eq hi] at this
      simpa [h5] using this
  · intro h
    unfold zoneOk
    simp only [Bool.and_eq_true, decide_eq_true_eq, List.all_eq_true, List.mem_range]
    refine ⟨⟨⟨⟨h.o, h.len⟩, h.ok⟩, fun i hi => ?_⟩, h.one⟩
    rw [zAt_eq hi]
    have hr := List.getElem_mem hi
    simp only [Bool.and_eq_true, Bool.or_eq_true, Bool.not_eq_true', beq_eq_false_iff_ne, decide_eq_true_eq]
    refine ⟨⟨⟨h.under _ hr, prev_of_sorted h.sorted i⟩, ?_⟩, ?_⟩
    · rw [aloneR_eq hi]
      by_cases e : z.rrs[i].ty = 5
      · simp [e, h.alone _ hr e]
      · simp [e]
    · by_cases e : z.rrs[i].ty = 6
      · exact .inr (h.top _ hr e)
      · exact .inl e
end Hearth
namespace Hearth
end Hearth
namespace Hearth
end Hearth
namespace Hearth
theorem idx_none {α : Type} {g : α → Bool} {l : List α} (h : ∀ x ∈ l, g x = false) : idx g l = -1 := by
  unfold idx
  rw [List.findIdx?_eq_none_iff.2 h]
theorem idx_first {α : Type} {g : α → Bool} {l : List α} {i : Nat} (hi : i < l.length) (h : ∀ x ∈ l.take i, g x = false) (hg : g l[i] = true) : idx g l = i := by
  unfold idx
  rw [List.findIdx?_eq_some_iff_getElem.2 ⟨hi, hg, fun j hj => ?_⟩]
  have : l[j] ∈ l.take i := by
    rw [List.mem_iff_getElem]
    exact ⟨j, by simp; omega, by simp⟩
  simp [h _ this]
end Hearth
namespace Hearth
end Hearth

/- Messages: questions, records that are wanted, what they are written as. -/
namespace Hearth
open Go
structure Want where
  rr : Rr
  cls : Int
  bare : Bool
  deriving DecidableEq
def Want.cells (w : Want) : List DV := [encBB w.rr.name, .sc (.int .i64 w.rr.ty), .sc (.int .i64 w.rr.ttl), .sc (.int .i64 w.rr.addr), encBB w.rr.to, encB w.rr.text, encI w.rr.nums, .sc (.int .i64 w.cls), .sc (.bool w.bare)]
abbrev encW (l : List Want) : DV := encL 9 Want.cells l
structure SmallW (w : Want) : Prop where
  r : SmallR w.rr
structure SmallWs (l : List Want) : Prop where
  len : l.length ≤ 4194304
  mem : ∀ w ∈ l, SmallW w
def costW (w : Want) : Nat := costR w.rr
abbrev costWs (l : List Want) : Nat := cntL costW l
theorem SmallWs.ofCost {l : List Want} (h : l.length + costWs l ≤ 1048576) : SmallWs l :=
  ⟨by omega, fun w hw => ⟨.ofCost (by have h1 := cntL_mem costW hw; unfold costWs at h; unfold costW at h1 h; omega)⟩⟩
def costQ (q : Qn) : Nat := costBB q.name
abbrev costQs (l : List Qn) : Nat := cntL costQ l
theorem SmallQs.ofCost {l : List Qn} (h : l.length + costQs l ≤ 1048576) : SmallQs l :=
  ⟨by omega, fun w hw => .ofCost (by have h1 := cntL_mem costQ hw; unfold costQs at h; unfold costQ at h1 h; omega)⟩
structure Msg where
  id : Int
  reply : Bool
  op : Int
  auth : Bool
  code : Int
  qs : List Qn
  an : List Rr
  au : List Rr
  mo : List Rr
  pr : List Want
  up : List Want
  deriving DecidableEq
def Msg.cells (m : Msg) : List DV := [.sc (.int .i64 m.id), .sc (.bool m.reply), .sc (.int .i64 m.op), .sc (.bool m.auth), .sc (.int .i64 m.code), encQ m.qs, encR m.an, encR m.au, encR m.mo, encW m.pr, encW m.up]
structure SmallM (m : Msg) : Prop where
  q : SmallQs m.qs
  a : SmallRs m.an
  b : SmallRs m.au
  c : SmallRs m.mo
  p : SmallWs m.pr
  u : SmallWs m.up
def costM (m : Msg) : Nat := (m.qs.length + costQs m.qs) + (m.an.length + costRs m.an) + (m.au.length + costRs m.au) + (m.mo.length + costRs m.mo) + (m.pr.length + costWs m.pr) + (m.up.length + costWs m.up)
theorem SmallM.ofCost {m : Msg} (h : costM m ≤ 1048576) : SmallM m := by
  unfold costM at h
  exact ⟨.ofCost (by omega), .ofCost (by omega), .ofCost (by omega), .ofCost (by omega), .ofCost (by omega), .ofCost (by omega)⟩
def wantOk (w : Want) : Bool :=
  if w.cls ≠ 1 ∧ w.cls ≠ 254 ∧ w.cls ≠ 255 then false
  else if w.bare then !(w.cls == 1) && nameOk w.rr.name && askedT w.rr.ty && w.rr.ttl == 0 && w.rr.addr == 0 && w.rr.to.isEmpty && w.rr.text.isEmpty && w.rr.nums.isEmpty
  else !(w.cls == 255) && rrOk w.rr && (w.cls == 1 || w.rr.ttl == 0)
def wantsOk (l : List Want) : Bool := decide ((l.length : Int) ≤ 12) && l.all wantOk
def msgMay (m : Msg) : Bool :=
  (decide (0 ≤ m.id) && decide (m.id ≤ 65535)) && (decide (0 ≤ m.code) && decide (m.code ≤ 10)) && (decide (m.qs.length = 1) && nameOk (m.qs.getD 0 ⟨[], 0⟩).name && askedT (m.qs.getD 0 ⟨[], 0⟩).ty) &&
  (rrsOk m.an && rrsOk m.au && rrsOk m.mo && wantsOk m.pr && wantsOk m.up) &&
  (if m.op = 0 then decide (m.pr.length + m.up.length = 0) else if m.op = 5 then (m.qs.getD 0 ⟨[], 0⟩).ty == 6 && decide (m.an.length + m.au.length + m.mo.length = 0) else false)
theorem w2_len (n : Int) : (w2 n).length = 2 := rfl
theorem tyOk_rng {t : Int} (h : tyOk t = true) : 0 ≤ t ∧ t ≤ 49 := by
  unfold tyOk at h; simp at h; omega
theorem askedT_rng {t : Int} (h : askedT t = true) : 0 ≤ t ∧ t ≤ 255 := by
  unfold askedT at h
  simp only [Bool.or_eq_true] at h
  rcases h with h | h
  · have := tyOk_rng h; omega
  · simp at h; omega
structure MayP (m : Msg) : Prop where
  id : 0 ≤ m.id ∧ m.id ≤ 65535
  cd : 0 ≤ m.code ∧ m.code ≤ 10
  q1 : m.qs.length = 1
  qn : nameOk (m.qs.getD 0 ⟨[], 0⟩).name = true
  qt : 0 ≤ (m.qs.getD 0 ⟨[], 0⟩).ty ∧ (m.qs.getD 0 ⟨[], 0⟩).ty ≤ 255
  an : m.an.length ≤ 12 ∧ ∀ r ∈ m.an, rrOk r = true
  au : m.au.length ≤ 12 ∧ ∀ r ∈ m.au, rrOk r = true
  mo : m.mo.length ≤ 12 ∧ ∀ r ∈ m.mo, rrOk r = true
  pr : m.pr.length ≤ 12 ∧ ∀ w ∈ m.pr, wantOk w = true
  up : m.up.length ≤ 12 ∧ ∀ w ∈ m.up, wantOk w = true
  op : m.op = 0 ∧ m.pr = [] ∧ m.up = [] ∨ m.op = 5 ∧ m.an = [] ∧ m.au = [] ∧ m.mo = []
theorem rrsOk_p {l : List Rr} (h : rrsOk l = true) : l.length ≤ 12 ∧ ∀ r ∈ l, rrOk r = true := by
  unfold rrsOk at h
  simp only [Bool.and_eq_true, decide_eq_true_eq] at h
  exact ⟨by omega, List.all_eq_true.1 h.2⟩
theorem wantsOk_p {l : List Want} (h : wantsOk l = true) : l.length ≤ 12 ∧ ∀ r ∈ l, wantOk r = true := by
  unfold wantsOk at h
  simp only [Bool.and_eq_true, decide_eq_true_eq] at h
  exact ⟨by omega, List.all_eq_true.1 h.2⟩
theorem MayP.of {m : Msg} (h : msgMay m = true) : MayP m := by
  unfold msgMay at h
  simp only [Bool.and_eq_true, decide_eq_true_eq] at h
  obtain ⟨⟨⟨⟨h1, h2⟩, ⟨h3, h4⟩, h5⟩, ⟨⟨⟨h6, h7⟩, h8⟩, h9⟩, h10⟩, h11⟩ := h
  refine ⟨h1, h2, h3, h4, askedT_rng h5, rrsOk_p h6, rrsOk_p h7, rrsOk_p h8, wantsOk_p h9, wantsOk_p h10, ?_⟩
  split at h11
  · rename_i e
    simp only [decide_eq_true_eq] at h11
    exact .inl ⟨e, List.eq_nil_of_length_eq_zero (by omega), List.eq_nil_of_length_eq_zero (by omega)⟩
  · split at h11
    · rename_i e
      simp only [Bool.and_eq_true, decide_eq_true_eq] at h11
      exact .inr ⟨e, List.eq_nil_of_length_eq_zero (by omega), List.eq_nil_of_length_eq_zero (by omega), List.eq_nil_of_length_eq_zero (by omega)⟩
    · cases h11
section
variable {P : Program} {k : List It} {Q : Ex → St → Prop} {s : St} {r : T} {d : Option Nat} {q : Bool} {oi : Nat} {tags : List Nat}
end
end Hearth

/- Answers of zones. -/
namespace Hearth
open Go
def zTopR (z : Zone) : Rr := z.rrs.getD (topIx z.rrs).toNat emptyR
structure AnsP (z : Zone) (m : Msg) (k : Nat) (o : Msg) : Prop where
  id : o.id = m.id
  rp : o.reply = true
  op : o.op = m.op
  qs : o.qs = [m.qs.getD 0 ⟨[], 0⟩]
  an : o.an.length ≤ 60 * k ∧ ∀ r ∈ o.an, r ∈ z.rrs
  au : o.au = []
  mo : o.mo = []
  pr : o.pr = []
  up : o.up = []
  cd : o.code = 0
structure AnsE (z : Zone) (m : Msg) (o : Msg) : Prop where
  id : o.id = m.id
  rp : o.reply = true
  op : o.op = m.op
  qs : o.qs = [m.qs.getD 0 ⟨[], 0⟩]
  an : o.an.length ≤ 360 ∧ ∀ r ∈ o.an, r ∈ z.rrs
  au : o.au.length ≤ 60 ∧ ∀ r ∈ o.au, r ∈ z.rrs
  mo : o.mo.length ≤ 3600 ∧ ∀ r ∈ o.mo, r ∈ z.rrs
  pr : o.pr = []
  up : o.up = []
theorem zone_look {z : Zone} {n : List (List UInt8)} {t : Int} (hz : zoneOk z = true) : (lookupN z n t).1.length ≤ 60 ∧ ∀ r ∈ (lookupN z n t).1, r ∈ z.rrs := by
  obtain ⟨f, hf⟩ := lookup_filter z n t
  have := zoneOk_pos hz
  rw [hf]
  exact ⟨Nat.le_trans (List.length_filter_le _ _) this.2, fun r hr => (List.mem_filter.1 hr).1⟩
theorem zTopR_mem {z : Zone} (hz : zoneOk z = true) : zTopR z ∈ z.rrs := by
  have h := topIx_lt hz
  unfold zTopR
  rw [List.getD_eq_getElem?_getD, List.getElem?_eq_getElem (by omega)]
  exact List.getElem_mem _
theorem AnsP.e {z : Zone} {m o : Msg} {k : Nat} (h : AnsP z m k o) (hk : k ≤ 6) : AnsE z m o :=
  ⟨h.id, h.rp, h.op, h.qs, ⟨by have := h.an.1; omega, h.an.2⟩, by rw [h.au]; exact ⟨by simp, nofun⟩, by rw [h.mo]; exact ⟨by simp, nofun⟩, h.pr, h.up⟩
theorem AnsP.more {z : Zone} {m o : Msg} {k : Nat} {n : List (List UInt8)} {t : Int} (hz : zoneOk z = true) (h : AnsP z m k o) : AnsP z m (k + 1) { o with auth := true, an := o.an ++ (lookupN z n t).1 } := by
  have hl := zone_look (n := n) (t := t) hz
  exact ⟨h.id, h.rp, h.op, h.qs, ⟨by show (o.an ++ _).length ≤ _; rw [List.length_append]; have := h.an.1; omega, fun r hr => (List.mem_append.1 hr).elim (h.an.2 r) (hl.2 r)⟩, h.au, h.mo, h.pr, h.up, h.cd⟩
end Hearth
namespace Hearth
theorem SmallRs.app {l : List Rr} {r : Rr} {k : Nat} (h : l.length ≤ k ∧ ∀ x ∈ l, SmallR x) (hr : SmallR r) : (l ++ [r]).length ≤ k + 1 ∧ ∀ x ∈ l ++ [r], SmallR x := by
  refine ⟨by rw [List.length_append]; simp only [List.length_cons, List.length_nil]; omega, fun b hb => ?_⟩
  rcases List.mem_append.1 hb with hb | hb
  · exact h.2 b hb
  · simp only [List.mem_singleton] at hb; subst hb; exact hr
theorem SmallWs.app {l : List Want} {r : Want} {k : Nat} (h : l.length ≤ k ∧ ∀ x ∈ l, SmallW x) (hr : SmallW r) : (l ++ [r]).length ≤ k + 1 ∧ ∀ x ∈ l ++ [r], SmallW x := by
  refine ⟨by rw [List.length_append]; simp only [List.length_cons, List.length_nil]; omega, fun b hb => ?_⟩
  rcases List.mem_append.1 hb with hb | hb
  · exact h.2 b hb
  · simp only [List.mem_singleton] at hb; subst hb; exact hr
end Hearth
namespace Hearth
open Go
section
variable {P : Program} {k : List It} {Q : Ex → St → Prop}
end
end Hearth

/- Updates, as draws make them. -/
namespace Hearth
open Go
theorem addAt_spec (r : Rr) : ∀ (l : List Rr) (st : List Rr × Bool), (st.2 = true → r ∈ st.1) →
    ((l.foldl (addSt r) st).2 = true → r ∈ (l.foldl (addSt r) st).1) ∧
    (∀ x, x ∈ (l.foldl (addSt r) st).1 ↔ x ∈ st.1 ∨ ((l.foldl (addSt r) st).2 = true ∧ x = r) ∨ ∃ y ∈ l, cmpR r y ≠ 0 ∧ x = ttlR r y) ∧
    ((l.foldl (addSt r) st).1.length = st.1.length + (if (l.foldl (addSt r) st).2 = true ∧ st.2 = false then 1 else 0) + (l.filter fun y => cmpR r y != 0).length) ∧
    (st.2 = true → (l.foldl (addSt r) st).2 = true)
  | [], st, h => by
    refine ⟨h, fun x => ?_, ?_, fun h => h⟩
    · simp only [List.foldl_nil, List.not_mem_nil, false_and, exists_false, or_false]
      exact ⟨fun hx => .inl hx, fun hx => hx.elim id fun ⟨e, hx⟩ => hx ▸ h e⟩
    · have : ¬ (st.2 = true ∧ st.2 = false) := by rintro ⟨a, b⟩; rw [a] at b; cases b
      simp [this]
  | y :: l, st, h => by
    simp only [List.foldl_cons]
    have h' : (addSt r st y).2 = true → r ∈ (addSt r st y).1 := by
      unfold addSt
      simp only [Bool.or_eq_true, decide_eq_true_eq]
      intro hp
      have hm : r ∈ (if st.2 = false ∧ cmpR r y ≤ 0 then st.1 ++ [r] else st.1) := by
        by_cases hs : st.2 = true
        · rw [if_neg (by simp [hs])]; exact h hs
        · rw [if_pos ⟨by simpa using hs, hp.resolve_left hs⟩]; simp
      split
      · exact hm
      · exact List.mem_append_left _ hm
    obtain ⟨i1, i2, i3, i4⟩ := addAt_spec r l (addSt r st y) h'
    have e2 : (addSt r st y).2 = (st.2 || decide (cmpR r y ≤ 0)) := rfl
    have e1 : (addSt r st y).1 = if cmpR r y = 0 then (if st.2 = false ∧ cmpR r y ≤ 0 then st.1 ++ [r] else st.1) else (if st.2 = false ∧ cmpR r y ≤ 0 then st.1 ++ [r] else st.1) ++ [ttlR r y] := rfl
    refine ⟨i1, fun x => ?_, ?_, fun hs => i4 (by rw [e2, hs]; rfl)⟩
    · rw [i2, e1]
      constructor
      · rintro (hx | hx | ⟨z, hz, hx⟩)
        · have hb : x ∈ (if st.2 = false ∧ cmpR r y ≤ 0 then st.1 ++ [r] else st.1) → x ∈ st.1 ∨ ((l.foldl (addSt r) (addSt r st y)).2 = true ∧ x = r) := by
            intro hx
            split at hx
            · rename_i hc
              rcases List.mem_append.1 hx with hx | hx
              · exact .inl hx
              · simp only [List.mem_singleton] at hx
                exact .inr ⟨i4 (by rw [e2]; simp [hc.2]), hx⟩
            · exact .inl hx
          split at hx
          · exact (hb hx).imp id .inl
          · rename_i hne
            rcases List.mem_append.1 hx with hx | hx
            · exact (hb hx).imp id .inl
            · simp only [List.mem_singleton] at hx
              exact .inr (.inr ⟨y, List.mem_cons_self .., hne, hx⟩)
        · exact .inr (.inl hx)
        · exact .inr (.inr ⟨z, List.mem_cons_of_mem _ hz, hx⟩)
      · have hb : x ∈ st.1 → x ∈ (if st.2 = false ∧ cmpR r y ≤ 0 then st.1 ++ [r] else st.1) := by
          intro hx; split
          · exact List.mem_append_left _ hx
          · exact hx
        rintro (hx | hx | ⟨z, hz, hne, hx⟩)
        · left
          split
          · exact hb hx
          · exact List.mem_append_left _ (hb hx)
        · exact .inr (.inl hx)
        · rcases List.mem_cons.1 hz with rfl | hz
          · left
            rw [if_neg hne]
            exact List.mem_append_right _ (by simp [hx])
          · exact .inr (.inr ⟨z, hz, hne, hx⟩)
    · rw [i3, e1, e2, List.filter_cons]
      have hle : cmpR r y = 0 → cmpR r y ≤ 0 := fun h => by omega
      have h4 : (addSt r st y).2 = true → (l.foldl (addSt r) (addSt r st y)).2 = true := i4
      rw [e2] at h4
      cases hs : st.2 with
      | true =>
        rw [hs] at h4
        simp only [Bool.true_or, true_implies] at h4
        by_cases hc : cmpR r y = 0
        · simp [hc]
        · simp [hc, h4]; omega
      | false =>
        rw [hs] at h4
        by_cases hl : cmpR r y ≤ 0
        · have h5 : (l.foldl (addSt r) (addSt r st y)).2 = true := h4 (by simp [hl])
          by_cases hc : cmpR r y = 0
          · simp [hc, h5]
          · simp [hc, hl, h5]; omega
        · have hc : ¬ cmpR r y = 0 := fun h => hl (hle h)
          simp [hc, hl]
          split <;> omega
theorem mem_addL {l : List Rr} {r x : Rr} : x ∈ addL l r ↔ x = r ∨ ∃ y ∈ l, cmpR r y ≠ 0 ∧ x = ttlR r y := by
  obtain ⟨h1, h2, _, _⟩ := addAt_spec r l ([], false) nofun
  change ((addAt l r).2 = true → r ∈ (addAt l r).1) at h1
  change ∀ x, x ∈ (addAt l r).1 ↔ x ∈ [] ∨ ((addAt l r).2 = true ∧ x = r) ∨ ∃ y ∈ l, cmpR r y ≠ 0 ∧ x = ttlR r y at h2
  unfold addL
  split
  · rename_i hp
    rw [h2]; simp [hp]
  · rename_i hp
    rw [List.mem_append, h2]
    simp [hp]
    constructor
    · rintro (h | h)
      · exact .inr h
      · exact .inl h
    · rintro (h | h)
      · exact .inr h
      · exact .inl h
theorem addL_length (l : List Rr) (r : Rr) : (addL l r).length = 1 + (l.filter fun y => cmpR r y != 0).length := by
  obtain ⟨_, _, h3, _⟩ := addAt_spec r l ([], false) nofun
  change (addAt l r).1.length = 0 + (if (addAt l r).2 = true ∧ false = false then 1 else 0) + (l.filter fun y => cmpR r y != 0).length at h3
  unfold addL
  split
  · rename_i hp
    rw [h3]; simp [hp]
  · rename_i hp
    rw [List.length_append, h3]; simp [hp]; omega
theorem addL_le (l : List Rr) (r : Rr) : (addL l r).length ≤ l.length + 1 := by
  rw [addL_length]
  have := List.length_filter_le (fun y => cmpR r y != 0) l
  omega
structure ZI (k : Nat) (z : Zone) : Prop where
  o : nameOk z.origin = true
  len : z.rrs.length ≤ k
  ok : ∀ r ∈ z.rrs, rrOk r = true
  soa : ∃ r ∈ z.rrs, r.ty = 6 ∧ r.name = z.origin
theorem ZI.mono {k j : Nat} {z : Zone} (h : ZI k z) (hk : k ≤ j) : ZI j z := ⟨h.o, Nat.le_trans h.len hk, h.ok, h.soa⟩
theorem ZI.of {z : Zone} (h : zoneOk z = true) : ZI 60 z := by
  have hp := zoneP.1 h
  have ht := topIx_lt h
  refine ⟨hp.o, hp.len, hp.ok, ?_⟩
  have hm := zTopR_mem h
  have h6 : (zTopR z).ty = 6 := by
    have hx := ht
    unfold topIx idx at hx
    unfold zTopR topIx idx
    cases hf : z.rrs.findIdx? (fun r => r.ty == 6) with
    | none => rw [hf] at hx; simp at hx
    | some i =>
      rw [List.findIdx?_eq_some_iff_getElem] at hf
      obtain ⟨h1, h2, _⟩ := hf
      simp only [Int.toNat_natCast]
      rw [List.getD_eq_getElem?_getD, List.getElem?_eq_getElem h1]
      simpa using h2
  exact ⟨_, hm, h6, hp.top _ hm h6⟩
theorem ttlR_name (r x : Rr) : (ttlR r x).name = x.name ∧ (ttlR r x).ty = x.ty := by
  unfold ttlR; split <;> exact ⟨rfl, rfl⟩
theorem ZI.add {k : Nat} {z : Zone} {r : Rr} (h : ZI k z) (hr : rrOk r = true) : ZI (k + 1) ⟨z.origin, addL z.rrs r⟩ := by
  refine ⟨h.o, by have := addL_le z.rrs r; have := h.len; show (addL z.rrs r).length ≤ _; omega, addL_mem _ _ _ hr fun x hx => ttlR_ok hr (h.ok x hx), ?_⟩
  obtain ⟨x, hx, h6, hn⟩ := h.soa
  by_cases hc : cmpR r x = 0
  · have := (cmpR_iff r x).1 hc
    exact ⟨r, mem_addL.2 (.inl rfl), by rw [this.2.1, h6], by rw [this.1, hn]⟩
  · exact ⟨ttlR r x, mem_addL.2 (.inr ⟨x, hx, hc, rfl⟩), by rw [(ttlR_name r x).2, h6], by rw [(ttlR_name r x).1, hn]⟩
theorem ZI.filter {k : Nat} {z : Zone} (h : ZI k z) (f : Rr → Bool) (hf : ∀ r, r.ty = 6 → f r = true) : ZI k ⟨z.origin, z.rrs.filter f⟩ := by
  refine ⟨h.o, Nat.le_trans (List.length_filter_le _ _) h.len, fun r hr => h.ok r (List.mem_filter.1 hr).1, ?_⟩
  obtain ⟨x, hx, h6, hn⟩ := h.soa
  exact ⟨x, List.mem_filter.2 ⟨hx, hf x h6⟩, h6, hn⟩
end Hearth

/- The abstract machine: functions whose contracts are told by states. -/
namespace Hearth
open Go
def St.begO (args : List AV) (lo : List (Nat × OK)) : St where
  sl := fun t => match args[t]? with
    | some x => x
    | none => .c .un
  ob := obTab 0 (iniT lo)
  hold := []
def EndS (lo : List (Nat × OK)) (slots : List RSl) (R : List RA → List (Nat × OK) → Prop) (e : Ex) (s : St) : Prop :=
  (∀ id, e ≠ .exit id) ∧ ∃ t, Sub s t ∧ ∃ ra lo', R ra lo' ∧ kds lo' = kds lo ∧ t.resAts slots = some (ra.map raV) ∧ t.ob = obTab 1 (finT lo')
theorem FnOS.ofK {P : Program} {f : FuncId} {fn : Func} {c' : C} {loud : List Nat} {slots : List RSl} {args : List AV} {lo : List (Nat × OK)} {R : List RA → List (Nat × OK) → Prop} (hf : P.funcs[f]? = some fn) (hname : (fn.name == "runtime.NumGoroutine") = false)
    (hd : fn.body.bind (digC P fn.ntmps loud) = some c') (hr : resSlots P fn = some slots) (hN' : Nat.ble args.length fn.ntmps = true) (hal : loAt lo alien = none)
    (h : kont P [.c c'] (EndS lo slots R) .normal (.begO args lo)) : FnOS P f args lo R := by
  obtain ⟨c, hb, hd⟩ := Option.bind_eq_some_iff.1 hd
  have hN := Nat.le_of_ble_eq_true hN'
  refine ⟨⟨fn, hf, by rw [hb]; rfl, hname⟩, fun w own hdr vs hl hv hobj hdis hlt => ?_⟩
  have alB : obTab 0 (iniT lo) alien = ⟨0, 0, .ext⟩ := by rw [iniT_at, hal]; rfl
  have r : RelX P fn.ntmps w own hdr [] own hdr (.begO args lo) { tmps := vs ++ Array.replicate (fn.ntmps - vs.size) undef, defers := [] } w := by
    refine ⟨by simp; omega, rfl, fun t => ?_, hobj, by show (obTab 0 (iniT lo) alien).k = _; rw [alB], by show (obTab 0 (iniT lo) alien).ver = _; rw [alB], hdis, hlt, Ext.refl _ _, fun id _ => ⟨rfl, fun b => Iff.rfl⟩, fun id b hne h => .inr ⟨id, hne, h⟩, by simp⟩
    simp only [St.begO]
    split
    · rename_i x hx
      have hlt : t < vs.size := by rw [hl]; exact (List.getElem?_eq_some_iff.1 hx).1
      have hvt := Array.getElem?_eq_getElem hlt
      have hget : (vs ++ Array.replicate (fn.ntmps - vs.size) undef).getD t undef = vs[t] := by
        simp [Array.getElem?_append, hlt]
      rw [hget]
      exact hv t x _ hx hvt
    · rename_i hx
      have hge : vs.size ≤ t := by rw [hl]; simpa using hx
      have : (vs ++ Array.replicate (fn.ntmps - vs.size) undef).getD t undef = undef := by
        simp only [Array.getD_eq_getD_getElem?, Array.getElem?_append]
        rw [if_neg (by omega), Array.getElem?_replicate]
        split <;> rfl
      rw [this]
      exact rfl
  have h' : ∃ t, Sub (.begO args lo) t ∧ wpC P c' t (EndS lo slots R) := by
    obtain ⟨t, h1, h2⟩ := h
    exact ⟨t, h1, (wpC_congr fun e s => by cases e <;> rfl).mp h2⟩
  obtain ⟨t, ht, h⟩ := h'
  refine calls_of_wp hf hb (wp_mono (digC_sound hd h (ht _ _ _ _ _ _ _ ⟨_, _, r⟩)) ?_)
  have fin : ∀ (a : Act) (w' : World) (s' : St), (∃ t, Sub s' t ∧ ∃ ra lo', R ra lo' ∧ kds lo' = kds lo ∧ t.resAts slots = some (ra.map raV) ∧ t.ob = obTab 1 (finT lo')) → Rel P fn.ntmps w own hdr [] s' a w' → a.defers = [] ∧ ∃ v, (results fn a.tmps).run P w' = .ok v w' ∧
      ∃ (rs : Array Value) (ra : List RA) (lo' : List (Nat × OK)) (own' : Nat → Nat → Prop) (hdr' : Nat → Value),
      Ending.returned v = .returned (if h : rs.size = 1 then rs[0] else .tuple rs) ∧ R ra lo' ∧ kds lo' = kds lo ∧ rs.size = ra.length ∧
      (∀ (t : Nat) (x : RA) (v : Value), ra[t]? = some x → rs[t]? = some v → RV1 P w' own' hdr' (obTab 1 (finT lo')) (raV x) v) ∧
      (∀ id, RO P w' own' hdr' (obTab 1 (finT lo')) id) ∧ (∀ id id' b, own' id b → own' id' b → id = id') ∧ (∀ id b, own' id b → b < w'.heap.size) ∧
      Ext w w' (fun b => ∃ id, id ≠ alien ∧ own id b) ∧ (∀ id, (obTab 1 (finT lo') id).ver = 0 → hdr' id = hdr id ∧ ∀ b, own' id b ↔ own id b) ∧
      (∀ id b, id ≠ alien → own' id b → w.heap.size ≤ b ∨ ∃ id', id' ≠ alien ∧ own id' b) := by
    rintro a w' s' ⟨u, hu, ra, lo', hR, hkd, hres, hob⟩ hrel
    obtain ⟨own', hdr', r'⟩ := hu _ _ _ _ _ _ _ hrel
    have hmain : ∃ us : List Value, (results fn a.tmps).run P w' = .ok (if h : us.toArray.size = 1 then us.toArray[0] else .tuple us.toArray) w' ∧ us.length = (ra.map raV).length ∧ ∀ (t : Nat) (v : AV) (x : Value), (ra.map raV)[t]? = some v → us[t]? = some x → RS P w' own' hdr' u.ob v x := by
      unfold results
      rw [Array.mapM_eq_mapM_toList, Sem.run_bind]
      generalize hg : (fun x : ResultVar => (match x with
        | .tmp t => pure (a.tmps.getD t undef)
        | .cell c t => do loadVar t (← asAddr (a.tmps.getD c undef)) : Sem Value)) = g
      obtain ⟨us, h1, h2, h3⟩ := mapM_res r' g (fun t => by rw [← hg]) (fun c t => by rw [← hg]) hr hres
      refine ⟨us, ?_, h2, h3⟩
      simp only [Sem.run_map, h1, Result.andThen_ok]
      rfl
    obtain ⟨us, hrun, hul, hus⟩ := hmain
    refine ⟨r'.defers, _, hrun, us.toArray, ra, lo', own', hdr', rfl, hR, hkd, by simpa using hul, fun t x v h1 h2 => ?_, ?_, r'.dis, r'.lt, r'.ext, ?_, r'.new⟩
    · have := hus t (raV x) v (by simp [h1]) (by simpa using h2)
      rw [hob] at this
      cases x <;> exact this
    · have := r'.objs
      rw [hob] at this
      exact this
    · have := r'.zero
      rw [hob] at this
      exact this
  rintro (_ | id | l | _ | ch | _) a w' hq
  · obtain ⟨s', ⟨_, h1⟩, h2⟩ := hq; exact fin a w' s' h1 h2
  · obtain ⟨s', ⟨h1, _⟩, _⟩ := hq; exact absurd rfl (h1 id)
  · exact hq.elim
  · obtain ⟨s', ⟨_, h1⟩, h2⟩ := hq; exact fin a w' s' h1 h2
  · exact hq.elim
  · exact hq.elim
section
variable {lo : List (Nat × OK)} {slots : List RSl} {R : List RA → List (Nat × OK) → Prop} {s : St}
theorem endSR (l : List (Nat × AV)) (lo' : List (Nat × OK)) (ra : List RA) (hs : Sub s ⟨tabSl l, obTab 1 (finT lo'), []⟩) (hR : R ra lo') (hkd : kds lo' = kds lo := by rfl)
    (hres : (⟨tabSl l, obTab 1 (finT lo'), []⟩ : St).resAts slots = some (ra.map raV) := by rfl) : EndS lo slots R .ret s := ⟨nofun, _, hs, ra, lo', hR, hkd, hres, rfl⟩
end
section
variable {P : Program} {k : List It} {Q : Ex → St → Prop} {s : St} {r : T} {d : Option Nat} {q : Bool} {oi : Nat} {tags : List Nat}
theorem kCallO {α : Type} {C : α → Prop} {f : α → List RA} {g : α → List (Nat × OK)} {e fn : Nat} {args : List X} {as : List AV} {lo : List (Nat × OK)} (ρ : List (Nat × Nat))
    (hok : FnOS P fn as lo (fun ra' lo' => ∃ x, C x ∧ ra' = f x ∧ lo' = g x))
    (h : ∀ x, C x → kont P (.t r tags :: k) Q .normal ((s.afterO ρ (g x)).put d (resO (f x))))
    (hm : toVs s ρ (args.map s.ev) as := by (repeat' first | exact trivial | exact rfl | exact .inl rfl | exact .inr ⟨_, rfl, rfl⟩ | exact ⟨_, rfl⟩ | refine And.intro ?_ ?_ | refine Exists.intro _ (And.intro rfl ?_)); first | done | fail)
    (ho : toOs s ρ lo := by (repeat' first | exact trivial | exact rfl | exact .inl rfl | exact .inr ⟨_, rfl, rfl⟩ | exact ⟨_, rfl⟩ | refine And.intro ?_ ?_ | refine Exists.intro _ (And.intro rfl ?_)); first | done | fail)
    (hk : lo.map (·.1) = ρ.map (·.1) := by rfl)
    (hb : (nodupB (ρ.map (·.1)) && nodupB (ρ.map (·.2)) && !(ρ.map (·.1)).contains alien && ρ.all (fun e => !s.hold.contains e.2)) = true := by rfl) : kont P (.t (.op oi [] d none q (.call e fn args) r) tags :: k) Q .normal s :=
  kOp (fun _ => trivial) (by
    simp only [Bool.and_eq_true] at hb
    obtain ⟨⟨⟨h1, h2⟩, h3⟩, h4⟩ := hb
    refine .inr (.inr (.inr ⟨as, lo, _, ρ, hok, hm, ho, hk, nodupB_sound h1, nodupB_sound h2, by simpa using h3, fun e he => by simpa using List.all_eq_true.1 h4 e he, ?_⟩))
    rintro ra lo' ⟨x, hC, rfl, rfl⟩ _
    exact h x hC)
end
def Task.cellsO (t : Task) (v : Nat) : List AC := [.d (.sc (.int .i64 t.state)), .d (.sc (.int .i64 t.id)), .d (encBB t.fname), .d (.sc (.int .i64 t.ftype)), .d (encBB t.name), .d (encBB t.zone), .d (encI t.hints), .d (encI t.servers), .d (.sc (.int .i64 t.turn)), .d (.sc (.int .i64 t.sends)), .d (.sc (.int .i64 t.steps)), .d (.sc (.int .i64 t.code)), .arr 1 v]
def Task.lo (t : Task) (v : Nat) : List (Nat × OK) := [(0, .box (t.cellsO v)), (1, .arr false (encR t.answers))]
def Cache.lo (c : Cache) (v : Nat) : List (Nat × OK) := [(0, .box [.d (.sc (.int .i64 c.now)), .d (.sc (.int .i64 c.turn)), .arr 1 v]), (1, .arr true (encS c.slots))]
end Hearth

/- Short names for a digest's parts and for rules. -/
namespace Hearth
def T.o (i d : Nat) (x : O) (r : T) : T := .op i [] (some d) none false x r
def X.i (n : Int) : X := .v (.int .i64 n)
def C.g (t : T) (c : C) : C := .seq (.reg false t) c
theorem pr {p : Prop} (h : p := by first | assumption | omega | solve_by_elim [List.getElem_mem] | (simp only [szOut] at *; omega)) : p := h
theorem prl {p : Prop} (h : p := by first | omega | (simp only [List.length_append, List.length_cons, List.length_nil]; omega)) : p := h
theorem leb {m n : Nat} (h : Nat.ble m n = true := by exact rfl) : m ≤ n := Nat.le_of_ble_eq_true h
theorem prx {p : Prop} (h : p := by first | assumption | omega | solve_by_elim [List.getElem_mem] | (simp only [List.length_append, w2_len, w4_len]; omega) | (simp only [szOut] at *; omega) | exact rfl | exact leb | exact rrOk_small (by assumption) | exact zoneOk_small (by assumption) | exact SmallBB.ok (by assumption) | exact (SmallBB.ok (by assumption)).len | exact (SmallBB.ok (by assumption)).mem | exact SmallBB.bent (by assumption)) : p := h
theorem om {p : Prop} (h : p := by omega) : p := h
universe u in
theorem Y {α : Sort u} {a : α} : a = a := rfl
abbrev Ka := @kMovC
abbrev Kb := @kSeq
abbrev Kc := @kReg
abbrev Kd := @kDone
abbrev Ke := @kLoadP
abbrev Kf := @kFadP
abbrev Kg := @kGF
abbrev Ki := @kGT
abbrev Kj := @kBin
abbrev Kk := @kPickT
abbrev Kl := @kPickF
abbrev Km := @kCondP
abbrev Kn := @kSkip
abbrev Ko := @kStoreP
abbrev Kp := @kCallD
abbrev Kq := @kLenR
abbrev Kr := @kRet
abbrev Ks := @kRelF
abbrev Kt := @kBlock
abbrev Ku := @kCall1
abbrev Kv := @kBk
abbrev Kw := @kUn
abbrev Kx := @kRelK
abbrev Ky := @kLoadD
abbrev Er := @endRetA
section
open Go
variable {P : Program} {k : List It} {Q : Ex → St → Prop} {s : St}
theorem Kbc {t : T} {y : C} (h : kont P (.t t [] :: .c y :: k) Q .normal s) : kont P (.c (.seq (.reg false t) y) :: k) Q .normal s := kSeq (kReg h)
theorem Kdb {tags : List Nat} {x y : C} (h : kont P (.c x :: .c y :: k) Q .normal s) : kont P (.t .done tags :: .c (.seq x y) :: k) Q .normal s := kDone (kSeq h)
end
end Hearth

/- From a function's contract to a law's walk. -/
namespace Hearth
open Go Go.RowKit
inductive AS where
  | one (sh : Sh)
  | agg (l : List Sh)
def shDA (n : Nat) : AS → DA → Prop
  | .one sh, .one x => shOk n sh x
  | .agg l, .agg xs => xs.length = l.length ∧ ∀ (k : Nat) (sh : Sh) (x : DV), l[k]? = some sh → xs[k]? = some x → shOk n sh x
  | _, _ => False
def asOf (P : Program) (n : Nat) (t : TypeId) : Option AS :=
  match P.underlying t with
  | some (.struct _) => match cellsSh P n t with
    | some l => if l.length ≤ 64 then some (.agg l) else none
    | none => none
  | some (.array _ _) => none
  | _ => match cellsSh P n t with
    | some [sh] => some (.one sh)
    | _ => none
section
variable {H : Type} {enc : TypeId × Value → H} {P : Program} {w : World}
theorem cells_one {base : Nat} {t : TypeId} {v : Value} (h : Cell.okWide P w .any base t v) : v.cells.toList = [v] := by
  cases v <;> first | rfl | (exfalso; revert h; simp [Cell.okWide, Cell.ok]; try (split <;> simp_all))
theorem arg_da {n : Nat} {sp : AS} {t : TypeId} {v : Value} {d : DataW H} {ps : List MemPlace} {base : Nat} (ha : asOf P n t = some sp) (ho : Value.okWide P w .any base t v) (h : DataW.Trod enc P w 0 (fun _ => true) true t v d ps) :
    ∃ da, DAr w (All w) da v ∧ shDA n sp da := by
  obtain ⟨fuel, h⟩ := h
  unfold asOf at ha
  unfold Value.okWide at ho
  split at ha
  · rename_i fs ht
    simp only [ht] at ho
    obtain ⟨cs, rfl, hcs, _⟩ := ho
    split at ha
    · rename_i l hl
      split at ha
      · rename_i h64
        simp at ha; subst ha
        obtain ⟨g1, g2⟩ := trod_sh hl h
        have g1' : cs.size = l.length := by simpa [Value.cells] using g1
        have ch : ∀ k : Nat, ∃ y : DV, ∀ (u : Value) (sh : Sh), cs[k]? = some u → l[k]? = some sh → Pers w (All w) y u ∧ shOk n sh y := by
          intro k
          by_cases hk : k < l.length
          · obtain ⟨y, a1, a2⟩ := g2 k (cs[k]'(by omega)) l[k] (by simp [Value.cells, g1', hk]) (List.getElem?_eq_getElem hk)
            refine ⟨y, fun u sh b1 b2 => ?_⟩
            rw [Array.getElem?_eq_getElem (by omega)] at b1
            rw [List.getElem?_eq_getElem hk] at b2
            simp at b1 b2
            subst b1; subst b2
            exact ⟨a1, a2⟩
          · exact ⟨.sl 0 [], fun u sh _ b2 => by rw [List.getElem?_eq_none (by omega)] at b2; cases b2⟩
        have ⟨f, hf⟩ := Classical.axiomOfChoice ch
        refine ⟨.agg ((List.range l.length).map f), ⟨cs, rfl, ⟨by simp [g1'], by simpa using h64⟩, fun k x u hx hu => ?_⟩, by simp, fun k sh x hs hx => ?_⟩
        · simp only [List.getElem?_map, Option.map_eq_some_iff] at hx
          obtain ⟨k', hk, rfl⟩ := hx
          have hlt : k < l.length := by have := (List.getElem?_eq_some_iff.1 hk).1; simpa using this
          rw [List.getElem?_range hlt] at hk
          simp at hk; subst hk
          exact (hf k u _ hu (List.getElem?_eq_getElem hlt)).1
        · simp only [List.getElem?_map, Option.map_eq_some_iff] at hx
          obtain ⟨k', hk, rfl⟩ := hx
          have hlt : k < l.length := by have := (List.getElem?_eq_some_iff.1 hk).1; simpa using this
          rw [List.getElem?_range hlt] at hk
          simp at hk; subst hk
          exact (hf k _ sh (Array.getElem?_eq_getElem (by omega)) hs).2
      · simp at ha
    · simp at ha
  · simp at ha
  · rename_i hns hna
    split at ha
    · rename_i sh hl
      simp at ha; subst ha
      have ho' : Cell.okWide P w .any base t v := by
        revert ho
        split
        · rename_i fs h'; exact absurd h' (hns fs)
        · rename_i a b h'; exact absurd h' (hna a b)
        · exact id
      rw [cells_one ho'] at h
      obtain ⟨_, g2⟩ := trod_sh hl h
      obtain ⟨y, g3, g4⟩ := g2 0 v sh rfl rfl
      exact ⟨.one y, g3, g4⟩
    · simp at ha
theorem law_calls {f : Nat} {das : List DA} {vs : Array Value} (hd : DAs w (All w) das vs) (hok : FnOK P f (das.map DA.ga) (fun ra _ => ra = [.one (.d (.sc (.bool true)))])) :
    Calls P f vs w fun e w' => e = .returned (.bool true) ∧ Below w.heap.size w w' := by
  refine (hok.2 w (All w) (fun _ _ => False) vs (by simpa using hd.1) (fun t g v hg hv => ?_) (by simp) (by simp) (fun _ h => h) (by simp)).mono fun e w' h => ?_
  · simp only [List.getElem?_map, Option.map_eq_some_iff] at hg
    obtain ⟨da, hda, rfl⟩ := hg
    have := hd.2 t da v hda hv
    cases da with
    | one x => exact this
    | agg xs =>
      obtain ⟨us, h1, h2, h3⟩ := this
      refine ⟨us, h1, by simpa using h2.1, by simpa using h2.2, fun k p u hp hu => ?_⟩
      simp only [List.getElem?_map, Option.map_eq_some_iff] at hp
      obtain ⟨x, hx, rfl⟩ := hp
      exact h3 k x u hx hu
  · obtain ⟨v, ra, os, G, rfl, rfl, he, _, hr, _⟩ := h
    obtain ⟨us, h1, h2, h3⟩ := hr
    have hs : us.size = 1 := h2
    rw [dif_pos hs] at h1
    have hp : Pers w' _ (.sc (.bool true)) us[0] := h3 0 _ us[0] rfl (Array.getElem?_eq_getElem (by omega))
    have key : ∀ {S : Nat → Prop} {x : DV} {u : Value}, Pers w' S x u → x = .sc (.bool true) → u = .bool true := by
      intro S x u hp hx
      cases hp with
      | sc _ _ => cases hx; rfl
      | emp _ _ _ => cases hx
      | sl _ _ _ _ _ _ _ _ _ _ _ _ => cases hx
    exact ⟨by rw [h1, key hp rfl], he.os, he.tape, he.output, he.size, fun k hk => he.same k hk (by simp)⟩
end
/-! What shapes tell. -/
theorem shOk_int {n : Nat} {k : IntKind} {x : DV} (h : shOk n (.int k) x) : ∃ m, x = .sc (.int k m) ∧ (Lit.int k m).wf = true := by
  cases n with
  | zero => simp [shOk] at h
  | succ n => cases x with
    | sc v => cases v <;> simp [shOk] at h; obtain ⟨rfl, h⟩ := h; exact ⟨_, rfl, h⟩
    | sl _ _ => simp [shOk] at h
theorem shOk_u8 {n : Nat} {x : DV} (h : shOk n (.int .u8) x) : ∃ b : UInt8, x = .sc (.int .u8 b.toNat) := by
  obtain ⟨m, rfl, hw⟩ := shOk_int h
  simp [Lit.wf, IntKind.min, IntKind.max, IntKind.signed, IntKind.bits] at hw
  refine ⟨UInt8.ofNat m.toNat, ?_⟩
  have : ((UInt8.ofNat m.toNat).toNat : Int) = m := by
    rw [UInt8.toNat_ofNat']
    omega
  rw [this]
theorem shOk_rows {n : Nat} {l : List Sh} {x : DV} {α : Type} {f : α → List DV} {q : α → Prop} (h : shOk n (.sl l) x)
    (hr : ∀ (m : Nat) (row : List DV), row.length = l.length → (∀ (j : Nat) (sh : Sh) (y : DV), l[j]? = some sh → row[j]? = some y → shOk m sh y) → ∃ a, row = f a ∧ q a) :
    ∃ as : List α, x = .sl l.length (as.map f) ∧ (as.length : Int) ≤ 9223372036854775807 ∧ ∀ a ∈ as, q a := by
  cases n with
  | zero => simp [shOk] at h
  | succ n => cases x with
    | sc v => cases v <;> simp [shOk] at h
    | sl sz rows =>
      obtain ⟨rfl, _, h3, h4⟩ := h
      have : ∀ rows : List (List DV), (∀ row ∈ rows, ∃ a, row = f a ∧ q a) → ∃ as : List α, rows = as.map f ∧ ∀ a ∈ as, q a := by
        intro rows
        induction rows with
        | nil => exact fun _ => ⟨[], rfl, by simp⟩
        | cons r rs ih =>
          intro h
          obtain ⟨a, h1, h2⟩ := h r (by simp)
          obtain ⟨as, h3, h4⟩ := ih (fun r hr => h r (by simp [hr]))
          exact ⟨a :: as, by rw [h1, h3]; rfl, fun b hb => (List.mem_cons.1 hb).elim (fun e => e ▸ h2) (h4 b)⟩
      obtain ⟨as, rfl, h5⟩ := this rows (fun row hrow => hr n row (h4 row hrow).1 (h4 row hrow).2)
      refine ⟨as, rfl, ?_, h5⟩
      simp only [List.length_map, maxLen] at h3
      omega
theorem row_one {α : Type} {P : Sh → DV → Prop} {sh : Sh} {row : List DV} {f : α → DV} {q : α → Prop} (hl : row.length = 1) (h : ∀ (j : Nat) (s : Sh) (y : DV), [sh][j]? = some s → row[j]? = some y → P s y) (hf : ∀ y, P sh y → ∃ a, y = f a ∧ q a) : ∃ a, row = [f a] ∧ q a := by
  match row, hl with
  | [y], _ =>
    obtain ⟨a, rfl, ha⟩ := hf y (h 0 sh y rfl rfl)
    exact ⟨a, rfl, ha⟩
theorem shOk_bytes {n : Nat} {x : DV} (h : shOk n (.sl [.int .u8]) x) : ∃ b : List UInt8, x = encB b ∧ (b.length : Int) ≤ 9223372036854775807 := by
  obtain ⟨as, h1, h2, _⟩ := shOk_rows (α := UInt8) (f := fun b => [.sc (.int .u8 b.toNat)]) (q := fun _ => True) h (fun m row hl hc => row_one (P := shOk m) hl hc fun y hy => by obtain ⟨b, rfl⟩ := shOk_u8 hy; exact ⟨b, rfl, trivial⟩)
  exact ⟨as, h1, h2⟩
theorem shOk_BB {n : Nat} {x : DV} (h : shOk n (.sl [.sl [.int .u8]]) x) : ∃ a : List (List UInt8), x = encBB a ∧ (a.length : Int) ≤ 9223372036854775807 ∧ ∀ b ∈ a, (b.length : Int) ≤ 9223372036854775807 :=
  shOk_rows (α := List UInt8) (f := fun b => [encB b]) (q := fun b => (b.length : Int) ≤ 9223372036854775807) h (fun m row hl hc => row_one (P := shOk m) hl hc fun y hy => shOk_bytes hy)
end Hearth

/- Arguments of laws as records. -/
namespace Hearth
open Go
abbrev shB : Sh := .sl [.int .u8]
abbrev shBB : Sh := .sl [.sl [.int .u8]]
abbrev shI : Sh := .sl [.int .i64]
abbrev i64 : Sh := .int .i64
abbrev shRow : List Sh := [shBB, i64, i64, i64, shBB, shB, shI]
theorem shOk_i64 {n : Nat} {x : DV} (h : shOk n i64 x) : ∃ m : Int, x = .sc (.int .i64 m) := by
  obtain ⟨m, h, _⟩ := shOk_int h; exact ⟨m, h⟩
theorem shOk_I {n : Nat} {x : DV} (h : shOk n shI x) : ∃ l : List Int, x = encI l ∧ (l.length : Int) ≤ 9223372036854775807 := by
  obtain ⟨l, h1, h2, _⟩ := shOk_rows (α := Int) (f := fun n => [.sc (.int .i64 n)]) (q := fun _ => True) h (fun m _ hl hc => row_one (P := shOk m) hl hc fun _ hy => by obtain ⟨b, rfl⟩ := shOk_i64 hy; exact ⟨b, rfl, trivial⟩)
  exact ⟨l, h1, h2⟩
theorem shOk_B {n : Nat} {x : DV} (h : shOk n shBB x) : ∃ a : List (List UInt8), x = encBB a ∧ BigBB a := by
  obtain ⟨a, h1, h2, h3⟩ := shOk_BB h; exact ⟨a, h1, h2, h3⟩
theorem row_Rr {n : Nat} {row : List DV} (hl : row.length = 7) (h : ∀ (j : Nat) (s : Sh) (y : DV), shRow[j]? = some s → row[j]? = some y → shOk n s y) : ∃ r : Rr, row = r.cells ∧ BigR r := by
  match row, hl with
  | [c0, c1, c2, c3, c4, c5, c6], _ =>
    obtain ⟨a0, rfl, b0⟩ := shOk_B (h 0 _ c0 rfl rfl)
    obtain ⟨a1, rfl⟩ := shOk_i64 (h 1 _ c1 rfl rfl)
    obtain ⟨a2, rfl⟩ := shOk_i64 (h 2 _ c2 rfl rfl)
    obtain ⟨a3, rfl⟩ := shOk_i64 (h 3 _ c3 rfl rfl)
    obtain ⟨a4, rfl, b4⟩ := shOk_B (h 4 _ c4 rfl rfl)
    obtain ⟨a5, rfl, b5⟩ := shOk_bytes (h 5 _ c5 rfl rfl)
    obtain ⟨a6, rfl, b6⟩ := shOk_I (h 6 _ c6 rfl rfl)
    exact ⟨⟨a0, a1, a2, a3, a4, a5, a6⟩, rfl, b0, b4, b5, b6⟩
theorem shOk_Rs {n : Nat} {x : DV} (h : shOk n (.sl shRow) x) : ∃ l : List Rr, x = encR l ∧ BigRs l := by
  obtain ⟨l, h1, h2, h3⟩ := shOk_rows (α := Rr) (f := Rr.cells) (q := BigR) h (fun m row hl hc => row_Rr hl hc)
  exact ⟨l, h1, h2, h3⟩
abbrev shSlot : List Sh := [shBB, i64, i64, .sl shRow, i64, i64, i64]
theorem row_Slot {n : Nat} {row : List DV} (hl : row.length = 7) (h : ∀ (j : Nat) (s : Sh) (y : DV), shSlot[j]? = some s → row[j]? = some y → shOk n s y) : ∃ s : Slot, row = s.cells ∧ BigS s := by
  match row, hl with
  | [c0, c1, c2, c3, c4, c5, c6], _ =>
    obtain ⟨a0, rfl, b0⟩ := shOk_B (h 0 _ c0 rfl rfl)
    obtain ⟨a1, rfl⟩ := shOk_i64 (h 1 _ c1 rfl rfl)
    obtain ⟨a2, rfl⟩ := shOk_i64 (h 2 _ c2 rfl rfl)
    obtain ⟨a3, rfl, b3⟩ := shOk_Rs (h 3 _ c3 rfl rfl)
    obtain ⟨a4, rfl⟩ := shOk_i64 (h 4 _ c4 rfl rfl)
    obtain ⟨a5, rfl⟩ := shOk_i64 (h 5 _ c5 rfl rfl)
    obtain ⟨a6, rfl⟩ := shOk_i64 (h 6 _ c6 rfl rfl)
    exact ⟨⟨a0, a1, a2, a3, a4, a5, a6⟩, rfl, b0, b3⟩
theorem shOk_Ss {n : Nat} {x : DV} (h : shOk n (.sl shSlot) x) : ∃ l : List Slot, x = encS l ∧ BigSs l := by
  obtain ⟨l, h1, h2, h3⟩ := shOk_rows (α := Slot) (f := Slot.cells) (q := BigS) h (fun m row hl hc => row_Slot hl hc)
  exact ⟨l, h1, h2, h3⟩
abbrev shCache : List Sh := [i64, i64, .sl shSlot]
theorem row_Cache {n : Nat} {row : List DV} (hl : row.length = 3) (h : ∀ (j : Nat) (s : Sh) (y : DV), shCache[j]? = some s → row[j]? = some y → shOk n s y) : ∃ c : Cache, row = c.cells ∧ BigSs c.slots := by
  match row, hl with
  | [c0, c1, c2], _ =>
    obtain ⟨a0, rfl⟩ := shOk_i64 (h 0 _ c0 rfl rfl)
    obtain ⟨a1, rfl⟩ := shOk_i64 (h 1 _ c1 rfl rfl)
    obtain ⟨a2, rfl, b2⟩ := shOk_Ss (h 2 _ c2 rfl rfl)
    exact ⟨⟨a0, a1, a2⟩, rfl, b2⟩
end Hearth
