/- An abstract machine for Go programs, and its soundness: the framework of this proof; no condition. -/
import Derived.Laws.Externs
import Derived.Lib.Bytealg
import Derived.Lib.AppendZerosOnto
import Derived.WideShapes
import Derived.Test.YtmdmlncdjdphdaaGreatHearth3
set_option linter.unusedVariables false
set_option linter.unusedSimpArgs false
/- Bytes compared by an entry of the model's own. -/
namespace Hearth
open Go Go.RowKit
def Rd (P : Program) (w : World) (v : Value) (l : List UInt8) : Prop := (Extern.Bytes.bytesOf v).run P w = .ok ⟨l.toArray⟩ w
theorem run_ldB {P : Program} (w : World) : ∀ (l : List UInt8) (a : Addr) (acc : ByteArray), (∀ j x, l[j]? = some x → w.cell? (a.add j) = some (.int .u8 x.toNat)) →
    (Extern.Bytes.loadBytes a l.length acc).run P w = .ok ⟨acc.data ++ l.toArray⟩ w
  | [], a, acc, _ => by simp [Extern.Bytes.loadBytes]
  | x :: l, a, acc, h => by
    have h0 : w.cell? a = some (.int .u8 x.toNat) := by
      have := h 0 x rfl
      simpa [Addr.add] using this
    have ih := run_ldB (P := P) w l (a.add 1) (acc.push x) (fun j y hy => by
      have := h (j + 1) y (by simpa using hy)
      have e : (a.add 1).add j = a.add (j + 1) := by
        unfold Addr.add
        by_cases hj : j = 0
        · subst hj; simp
        · simp [hj]; omega
      rw [e]; exact this)
    have hx : ((x.toNat : Int).toNat).toUInt8 = x := by simp
    simp only [List.length_cons, Extern.Bytes.loadBytes, Sem.run_bind, run_load, h0, Result.andThen, hx]
    rw [ih]
    congr 1
    apply ByteArray.ext
    simp [ByteArray.push]
theorem Rd.of {P : Program} {w : World} {S : Nat → Prop} {l : List UInt8} {v : Value} (hv : Pers w S (encB l) v) : Rd P w v l := by
  have hlen : (encB l).len = l.length := by simp [encB, DV.len]
  obtain ⟨A, c, rfl, _⟩ := hv.slice rfl
  rw [hlen]
  by_cases hl0 : l = []
  · subst hl0
    cases A <;> rfl
  · have hpos : 0 < l.length := by cases l <;> simp_all
    obtain ⟨_, b, off, rfl, _⟩ := hv.rowAt (i := 0) rfl (by rw [hlen]; exact hpos)
    unfold Rd
    simp only [Extern.Bytes.bytesOf]
    rw [run_ldB]
    · simp [ByteArray.empty, ByteArray.emptyWithCapacity] <;> rfl
    · intro j x hj
      have hi : j < l.length := (List.getElem?_eq_some_iff.1 hj).1
      have hx : l[j] = x := (List.getElem?_eq_some_iff.1 hj).2
      obtain ⟨_, b', off', hA, _, _, hc⟩ := hv.rowAt (i := j) rfl (by rw [hlen]; exact hi)
      simp at hA
      obtain ⟨rfl, rfl⟩ := hA
      have hrow : (encB l).row j = [.sc (.int .u8 (l[j]).toNat)] := by
        unfold DV.row encB DV.rows
        rw [List.getD_eq_getElem?_getD, List.getElem?_map, List.getElem?_eq_getElem hi]
        rfl
      obtain ⟨u, h1, h2⟩ := hc 0 (.sc (.int .u8 (l[j]).toNat)) (by rw [hrow]; rfl)
      simp [encB, DV.esz] at h1
      have ha : (⟨b, off, none⟩ : Addr).add j = ⟨b, off + j, none⟩ := by
        unfold Addr.add
        by_cases hj0 : j = 0 <;> simp [hj0]
      rw [ha, h1, Pers.scEq h2, hx]
def cmpRec : List UInt8 → List UInt8 → Int
  | [], [] => 0
  | [], _ :: _ => -1
  | _ :: _, [] => 1
  | x :: xs, y :: ys => if x = y then cmpRec xs ys else if x < y then -1 else 1
theorem bytesLess_cons (x y : UInt8) (xs ys : List UInt8) : Op.bytesLess (x :: xs) (y :: ys) = (decide (x < y) || (x == y && Op.bytesLess xs ys)) := rfl
theorem cmpB_rec : ∀ a b : List UInt8, cmpB a b = cmpRec a b
  | [], [] => rfl
  | [], _ :: _ => rfl
  | _ :: _, [] => by simp [cmpB, cmpRec, Op.bytesLess]
  | x :: xs, y :: ys => by
    have ih := cmpB_rec xs ys
    unfold cmpRec
    by_cases h : x = y
    · subst h
      rw [if_pos rfl, ← ih]
      have : ¬ x < x := by simp
      simp [cmpB, bytesLess_cons, this]
    · rw [if_neg h]
      by_cases hl : x < y
      · simp [cmpB, bytesLess_cons, hl]
      · simp [cmpB, bytesLess_cons, hl, h]
def cmpIx (a b : List UInt8) : Int :=
  match (List.range (min a.length b.length)).find? fun i => a[i]! != b[i]! with
  | some i => if a[i]! < b[i]! then -1 else 1
  | none => if a.length < b.length then -1 else if a.length > b.length then 1 else 0
theorem cmpIx_rec : ∀ a b : List UInt8, cmpIx a b = cmpRec a b
  | [], [] => rfl
  | [], y :: ys => by simp [cmpIx, cmpRec]
  | x :: xs, [] => by simp [cmpIx, cmpRec]
  | x :: xs, y :: ys => by
    have ih := cmpIx_rec xs ys
    unfold cmpRec
    rw [← ih]
    unfold cmpIx
    have hm : min (x :: xs).length (y :: ys).length = min xs.length ys.length + 1 := by simp only [List.length_cons]; omega
    rw [hm, List.range_succ_eq_map, List.find?_cons]
    by_cases h : x = y
    · subst h
      simp only [List.getElem!_cons_zero, bne_self_eq_false, List.find?_map, if_true]
      simp only [Function.comp_def, List.getElem!_cons_succ]
      cases (List.range (min xs.length ys.length)).find? (fun i => xs[i]! != ys[i]!) with
      | none => simp
      | some i => simp
    · have hne : (x != y) = true := by simpa using h
      simp only [List.getElem!_cons_zero, hne, if_neg h]
theorem cmp_lists (a b : List UInt8) : Extern.BytealgCompare.cmp ⟨a.toArray⟩ ⟨b.toArray⟩ = cmpB a b := by
  rw [cmpB_rec, ← cmpIx_rec]
  unfold Extern.BytealgCompare.cmp cmpIx
  have hg : ∀ (l : List UInt8) (i : Nat), (⟨l.toArray⟩ : ByteArray)[i]! = l[i]! := by
    intro l i
    by_cases h : i < l.length
    · rw [getElem!_pos (⟨l.toArray⟩ : ByteArray) i (by simpa [ByteArray.size] using h), getElem!_pos l i h]
      rfl
    · rw [getElem!_neg (⟨l.toArray⟩ : ByteArray) i (by simpa [ByteArray.size] using h), getElem!_neg l i h]
  have hs : ∀ l : List UInt8, (⟨l.toArray⟩ : ByteArray).size = l.length := fun l => by simp [ByteArray.size]
  simp only [hg, hs]
  rfl
theorem run_compare {P : Program} {f : FuncId} {fn : Func} {w : World} {va vb : Value} {a b : List UInt8} (hf : P.funcs[f]? = some fn) (hname : (fn.name == "runtime.NumGoroutine") = false) (hb : fn.body.isNone = true) (hn : Extern.findNext fn = none)
    (he : Extern.find fn = some Extern.BytealgCompare.compare) (ha : Rd P w va a) (hb' : Rd P w vb b) : (callFunc f #[va, vb]).run P w = .ok (.value (.int .i64 (cmpB a b))) w := by
  rw [run_callFunc_extern hf hname hb hn he]
  have : (Extern.BytealgCompare.compare #[va, vb]).run P w = .ok (.int .i64 (cmpB a b)) w := by
    unfold Rd at ha hb'
    change Sem.run P (do pure (goInt (Extern.BytealgCompare.cmp (← Extern.Bytes.bytesOf va) (← Extern.Bytes.bytesOf vb)))) w = _
    simp only [Sem.run_bind, Sem.run_pure, ha, hb', Result.andThen, cmp_lists]
    rfl
  rw [this]
  rfl
theorem FnOK.ofWalkB {P : Program} {f : FuncId} {fn : Func} (hf : P.funcs[f]? = some fn) (hb : fn.body.isSome = true) (hname : (fn.name == "runtime.NumGoroutine") = false) {a b : List UInt8} {n : Int}
    (h : ∀ (w : World) (va vb : Value), Rd P w va a → Rd P w vb b → Calls P f #[va, vb] w fun e w' => e = .returned (.int .i64 n) ∧ BelowD w.heap.size w w') : FnOK P f [.one (.d (encB a)), .one (.d (encB b))] (fun ra _ => ra = [.one (.d (.sc (.int .i64 n)))]) := by
  refine ⟨⟨fn, hf, hb, hname⟩, fun w S Fs vs hs hv _ _ _ hF => ?_⟩
  have hs1 : vs.size = 2 := hs
  have hp0 : Rd P w vs[0] a := Rd.of (hv 0 _ vs[0] rfl (Array.getElem?_eq_getElem (by omega)))
  have hp1 : Rd P w vs[1] b := Rd.of (hv 1 _ vs[1] rfl (Array.getElem?_eq_getElem (by omega)))
  have hvs : vs = #[vs[0], vs[1]] := by
    apply Array.ext
    · simpa using hs1
    · intro i h1 h2
      match i with
      | 0 => rfl
      | 1 => rfl
      | i + 2 => omega
  rw [hvs]
  refine (h w _ _ hp0 hp1).mono fun e w' h => ?_
  obtain ⟨rfl, hbel⟩ := h
  have hno : ∀ q b, ¬ Fs q b := by
    intro q b hq
    rcases hF q b hq with ⟨g, dp, x, hg | ⟨cs, hg⟩⟩
    all_goals
      simp only [gaAt] at hg
      match hq64 : q / 64 with
      | 0 => rw [hq64] at hg; simp [GA.at] at hg
      | 1 => rw [hq64] at hg; simp [GA.at] at hg
      | k + 2 => rw [hq64] at hg; simp at hg
  refine ⟨.int .i64 n, [.one (.d (.sc (.int .i64 n)))], ⟨fun _ => .sl 0 [], fun _ => []⟩, fun _ _ => False, rfl, rfl, ⟨hbel.1.os, hbel.1.tape, hbel.1.output, hbel.1.size, fun k hk _ => hbel.1.block k hk, hbel.2⟩, ⟨by simp, by simp, by simp⟩, ⟨#[.int .i64 n], rfl, rfl, fun t a u ha hu => ?_⟩, fun t k g v p u hg hv hp hu => ?_⟩
  · cases t with
    | zero => simp at ha hu; subst ha; subst hu; exact .sc _ rfl
    | succ t => simp at ha
  · match t with
    | 0 =>
      simp at hg; subst hg
      simp only [GA.at] at hp
      split at hp
      · simp at hp; subst hp; trivial
      · simp at hp
    | 1 =>
      simp at hg; subst hg
      simp only [GA.at] at hp
      split at hp
      · simp at hp; subst hp; trivial
      · simp at hp
    | t + 2 => simp at hg
end Hearth

/- More of the program's records, as data: slots, caches, leases, houses, wants, messages, transactions. -/
namespace Hearth
open Go
section
variable {α : Type}
def encL (sz : Nat) (f : α → List DV) (l : List α) : DV := .sl sz (l.map f)
def cntL (c : α → Nat) : List α → Nat
  | [] => 0
  | r :: l => c r + cntL c l
variable (c : α → Nat) (m : α → Int → α)
@[simp] theorem cntL_nil : cntL c [] = 0 := rfl
end
structure Slot where
  name : List (List UInt8)
  ty : Int
  kind : Int
  rrs : List Rr
  rank : Int
  til : Int
  used : Int
  deriving DecidableEq
def Slot.cells (s : Slot) : List DV := [encBB s.name, .sc (.int .i64 s.ty), .sc (.int .i64 s.kind), encR s.rrs, .sc (.int .i64 s.rank), .sc (.int .i64 s.til), .sc (.int .i64 s.used)]
abbrev encS (l : List Slot) : DV := encL 7 Slot.cells l
structure SmallS (s : Slot) : Prop where
  n : SmallBB s.name
  r : SmallRs s.rrs
structure SmallSs (l : List Slot) : Prop where
  len : l.length ≤ 4194304
  mem : ∀ s ∈ l, SmallS s
structure Cache where
  now : Int
  turn : Int
  slots : List Slot
  deriving DecidableEq
def Cache.cells (c : Cache) : List DV := [.sc (.int .i64 c.now), .sc (.int .i64 c.turn), encS c.slots]
def setAt (l : List Rr) (i : Nat) : Bool := if h : i < l.length then decide (l[i].name = (l[0]'(by omega)).name) && decide (l[i].ty = (l[0]'(by omega)).ty) && decide (l[i].ttl = (l[0]'(by omega)).ttl) && prevB l i else true
def isSetR (l : List Rr) : Bool := decide (0 < l.length) && rrsOk l && (List.range l.length).all (setAt l)
def cmpS (a b : Slot) : Int := if cmpN a.name b.name = 0 then cmpI a.ty b.ty else cmpN a.name b.name
def hitOk (s : Slot) : Bool := if s.kind = 1 then isSetR s.rrs && decide ((s.rrs.getD 0 emptyR).name = s.name) && decide ((s.rrs.getD 0 emptyR).ty = s.ty) else decide (s.rrs.length = 0)
def slotOk (now turn : Int) (s : Slot) : Bool :=
  nameOk s.name && tyOk s.ty && decide (1 ≤ s.kind ∧ s.kind ≤ 3) && decide (0 ≤ s.rank ∧ s.rank ≤ 3) && decide (now + 1 ≤ s.til ∧ s.til ≤ now + 1000) && decide (1 ≤ s.used ∧ s.used ≤ turn) && hitOk s
def prevS (l : List Slot) (i : Nat) : Bool := if h : 0 < i ∧ i < l.length then decide (cmpS (l[i - 1]'(by omega)) (l[i]'(by omega)) < 0) else true
def sAt (l : List Slot) (i : Nat) : Bool := if h : i < l.length then prevS l i && !((l.take i).any fun o => o.used == l[i].used) else true
def cacheOk (c : Cache) : Bool := decide (0 ≤ c.now ∧ c.now ≤ 1000000) && decide (0 ≤ c.turn ∧ c.turn ≤ 1000000) && decide (c.slots.length ≤ 8) && c.slots.all (slotOk c.now c.turn) && (List.range c.slots.length).all (sAt c.slots)
def nmStep (out : List (List (List UInt8))) (s : Slot) : List (List (List UInt8)) := if out.getLast? = some s.name then out else out ++ [s.name]
def namesS (l : List Slot) : List (List (List UInt8)) := l.foldl nmStep []
theorem nmStep_len (out : List (List (List UInt8))) (s : Slot) : (nmStep out s).length ≤ out.length + 1 := by
  unfold nmStep; split <;> simp
theorem namesS_len (l : List Slot) : (namesS l).length ≤ l.length := by
  have key : ∀ (l : List Slot) (out : List (List (List UInt8))), (l.foldl nmStep out).length ≤ out.length + l.length := by
    intro l
    induction l with
    | nil => intro out; simp
    | cons s l ih => intro out; have := ih (nmStep out s); have := nmStep_len out s; simp only [List.foldl_cons, List.length_cons]; omega
  have := key l []
  simpa [namesS] using this
theorem namesS_mem (l : List Slot) : ∀ n ∈ namesS l, ∃ s ∈ l, s.name = n := by
  have key : ∀ (l : List Slot) (out : List (List (List UInt8))), ∀ n ∈ l.foldl nmStep out, n ∈ out ∨ ∃ s ∈ l, s.name = n := by
    intro l
    induction l with
    | nil => intro out n hn; exact .inl hn
    | cons s l ih =>
      intro out n hn
      rcases ih _ n hn with h | ⟨s', h1, h2⟩
      · unfold nmStep at h
        split at h
        · exact .inl h
        · rcases List.mem_append.1 h with h | h
          · exact .inl h
          · simp at h; exact .inr ⟨s, List.mem_cons_self .., h.symm⟩
      · exact .inr ⟨s', List.mem_cons_of_mem _ h1, h2⟩
  intro n hn
  rcases key l [] n hn with h | h
  · cases h
  · exact h
def namesN (c : Cache) : List (List (List UInt8)) := if cacheOk c then namesS c.slots else []
structure SmallNs (l : List (List (List UInt8))) : Prop where
  len : l.length ≤ 4194304
  mem : ∀ n ∈ l, SmallBB n
theorem SmallNs.names {c : Cache} (h : SmallSs c.slots) : SmallNs (namesN c) := by
  unfold namesN
  split
  · refine ⟨Nat.le_trans (namesS_len _) h.len, fun n hn => ?_⟩
    obtain ⟨s, h1, rfl⟩ := namesS_mem _ n hn
    exact (h.mem s h1).n
  · exact ⟨Nat.zero_le _, nofun⟩
theorem SmallSs.filter {l : List Slot} (h : SmallSs l) (f : Slot → Bool) : SmallSs (l.filter f) := ⟨Nat.le_trans (List.length_filter_le _ _) h.len, fun r hr => h.mem r (List.mem_filter.1 hr).1⟩
theorem SmallSs.nil : SmallSs [] := ⟨Nat.zero_le _, nofun⟩
structure Lease where
  ip : Int
  client : List UInt8
  host : List UInt8
  til : Int
  won : Bool
  deriving DecidableEq
def Lease.cells (l : Lease) : List DV := [.sc (.int .i64 l.ip), encB l.client, encB l.host, .sc (.int .i64 l.til), .sc (.bool l.won)]
abbrev encE (l : List Lease) : DV := encL 5 Lease.cells l
structure House where
  now : Int
  zone : Zone
  rev : Zone
  leases : List Lease
  deriving DecidableEq
def House.cells (h : House) : List DV := [.sc (.int .i64 h.now), encBB h.zone.origin, encR h.zone.rrs, encBB h.rev.origin, encR h.rev.rrs, encE h.leases]
section
variable {P : Program} {k : List It} {Q : Ex → St → Prop} {s : St} {d : Option Nat} {q : Bool} {r : T} {oi : Nat} {tags : List Nat}
end
def endT (t : Task) (c : Int) : Task := { t with state := 1, code := c, answers := if c ≠ 0 ∧ c ≠ 3 then [] else t.answers }
def sentT (t : Task) : Task := if t.sends + 1 ≥ 12 then endT { t with sends := t.sends + 1 } 2 else { t with sends := t.sends + 1 }
def nextT (t : Task) : Task := { t with turn := (t.turn + 1).tmod t.servers.length }
def lostT (t : Task) : Task := nextT (sentT t)
theorem SmallT.sent {t : Task} (h : SmallT t) : SmallT (sentT t) := by
  unfold sentT endT
  split
  · exact ⟨h.f, h.n, h.z, h.h, h.s, .nil⟩
  · exact ⟨h.f, h.n, h.z, h.h, h.s, h.a⟩
theorem SmallT.next {t : Task} (h : SmallT t) : SmallT (nextT t) := ⟨h.f, h.n, h.z, h.h, h.s, h.a⟩
theorem SmallT.lost {t : Task} (h : SmallT t) : SmallT (lostT t) := h.sent.next
end Hearth

/- Draws: what they tell is of a kind; names that are read. -/
namespace Hearth
open Go
def intsOf : List (List DV) → Option (List Int)
  | [] => some []
  | [.sc (.int .i64 n)] :: r => match intsOf r with
    | some l => some (n :: l)
    | none => none
  | _ => none
theorem intsOf_eq : ∀ {xs : List (List DV)} {l : List Int}, intsOf xs = some l → DV.sl 1 xs = encI l
  | [], l, h => by simp [intsOf] at h; subst h; rfl
  | x :: r, l, h => by
    unfold intsOf at h
    split at h
    · rename_i e; cases e
    · rename_i n r' e
      simp only [List.cons.injEq] at e
      obtain ⟨rfl, rfl⟩ := e
      split at h
      · rename_i l' hl
        simp only [Option.some.injEq] at h
        subst h
        have := intsOf_eq hl
        simp only [encI, DV.sl.injEq, true_and] at this ⊢
        rw [this]; rfl
      · cases h
    · cases h
def strsOf : List (List DV) → Option (List ByteArray)
  | [] => some []
  | [.sc (.string n)] :: r => match strsOf r with
    | some l => some (n :: l)
    | none => none
  | _ => none
theorem strsOf_eq : ∀ {xs : List (List DV)} {l : List ByteArray}, strsOf xs = some l → xs = l.map fun b => [.sc (.string b)]
  | [], l, h => by simp [strsOf] at h; subst h; rfl
  | x :: r, l, h => by
    unfold strsOf at h
    split at h
    · rename_i e; cases e
    · rename_i n r' e
      simp only [List.cons.injEq] at e
      obtain ⟨rfl, rfl⟩ := e
      split at h
      · rename_i l' hl
        simp only [Option.some.injEq] at h
        subst h
        rw [strsOf_eq hl]; rfl
      · cases h
    · cases h
section
variable {P : Program} {k : List It} {Q : Ex → St → Prop} {s : St} {r : T} {d : Option Nat} {q : Bool} {oi : Nat} {tags : List Nat}
theorem kIadStr {x i : X} {j : IntKind} {n : Int} {id ver ev : Nat} {dp : Bool} {xs : List (List DV)} {l : List ByteArray} (hx : s.ev x = .c (.arr id ver)) (ho : s.ob id = ⟨ver, ev, .arr dp (.sl 1 xs)⟩) (hs : strsOf xs = some l) (hi : s.ev i = .vv (.int j n)) (hm : 0 ≤ n ∧ n < (l.length : Int))
    (h : kont P (.t r tags :: k) Q .normal (s.put d (.c (.ept id ver n.toNat 0)))) : kont P (.t (.op oi [] d none q (.iad 1 x i) r) tags :: k) Q .normal s :=
  kIadA hx hi ho rfl ⟨hm.1, by rw [strsOf_eq hs]; simp only [DV.len, List.length_map]; omega⟩ h
theorem kLoadStr {x : X} {id ver ev i : Nat} {dp : Bool} {xs : List (List DV)} {l : List ByteArray} (hx : s.ev x = .c (.ept id ver i 0)) (ho : s.ob id = ⟨ver, ev, .arr dp (.sl 1 xs)⟩) (hs : strsOf xs = some l) (hi : i < l.length) (hz : (l.all fun b => Nat.ble b.size 64) = true)
    (h : ∀ b : ByteArray, b.size ≤ 64 → kont P (.t r (if q then oi :: tags else tags) :: k) Q .normal ((s.heldIf q [id]).put d (.vv (.string b)))) : kont P (.t (.op oi [] d none q (.load none x) r) tags :: k) Q .normal s := by
  refine kLoadE hx ho (v := .vv (.string l[i])) ?_ (h _ ?_)
  · rw [strsOf_eq hs]
    rw [row_map 1 (fun b => [DV.sc (.string b)]) l i hi]
    rfl
  · have := List.all_eq_true.1 hz _ (List.getElem_mem hi)
    exact Nat.le_of_ble_eq_true this
theorem kRem {x y : X} {a b : Int} (hx : s.ev x = .i a) (hy : s.ev y = .i b) (hb : b ≠ 0) (h : kont P (.t r tags :: k) Q .normal (s.put d (.i (a.tmod b)))) :
    kont P (.t (.op oi [] d none q (.bin .rem x y) r) tags :: k) Q .normal s :=
  kBin hx hy (by simp only [evBin, if_true, if_neg hb]) h
end
theorem tmod_in {a n : Int} (h0 : 0 ≤ a) (hn : 0 < n) : 0 ≤ a.tmod n ∧ a.tmod n < n := by
  rw [Int.tmod_eq_emod_of_nonneg h0]
  exact ⟨Int.emod_nonneg _ (by omega), Int.emod_lt_of_pos _ hn⟩
def lowC (c : UInt8) : UInt8 := if 65 ≤ c ∧ c ≤ 90 then c + 32 else c
def lowerB (l : List UInt8) : List UInt8 := l.map lowC
def rdStep (st : List (List UInt8) × List UInt8) (c : UInt8) : List (List UInt8) × List UInt8 := if c = 46 then (st.1 ++ [lowerB st.2], []) else (st.1, st.2 ++ [c])
def rdAll (b : List UInt8) : List (List UInt8) × List UInt8 := b.foldl rdStep ([], [])
def readL (b : List UInt8) : List (List UInt8) := if (rdAll b).2 = [] ∧ 0 < b.length then (rdAll b).1 else (rdAll b).1 ++ [lowerB (rdAll b).2]
def readOk (b : List UInt8) : Bool := decide (b = [46]) || nameOk (readL b)
def readN (b : List UInt8) : List (List UInt8) := if b = [46] then [] else if nameOk (readL b) then readL b else []
theorem readN_ok (b : List UInt8) : nameOk (readN b) = true := by
  unfold readN
  split
  · rfl
  · split
    · assumption
    · rfl
theorem rdAll_succ (b : List UInt8) (i : Nat) (h : i < b.length) : rdAll (b.take (i + 1)) = rdStep (rdAll (b.take i)) b[i] := by
  unfold rdAll; rw [← List.take_append_getElem h, List.foldl_append]; rfl
theorem rd_len (b : List UInt8) (i : Nat) : (rdAll (b.take i)).1.length + (rdAll (b.take i)).2.length ≤ i := by
  have key : ∀ (l : List UInt8) (st : List (List UInt8) × List UInt8), (l.foldl rdStep st).1.length + (l.foldl rdStep st).2.length ≤ st.1.length + st.2.length + l.length := by
    intro l
    induction l with
    | nil => intro st; simp
    | cons c l ih =>
      intro st
      have := ih (rdStep st c)
      have e : (rdStep st c).1.length + (rdStep st c).2.length ≤ st.1.length + st.2.length + 1 := by
        unfold rdStep; split <;> simp <;> omega
      simp only [List.foldl_cons, List.length_cons]; omega
  have := key (b.take i) ([], [])
  simp only [List.length_nil, List.length_take] at this
  unfold rdAll; omega
theorem nameOk_len {n : List (List UInt8)} (h : nameOk n = true) : n.length ≤ 6 := by
  unfold nameOk at h; simp at h; omega
theorem flat_mul {n : List (List UInt8)} {m : Nat} (h : ∀ b ∈ n, b.length ≤ m) : n.flatten.length ≤ n.length * m := by
  induction n with
  | nil => simp
  | cons x n ih =>
    have h1 := h x (List.mem_cons_self ..)
    have h2 := ih fun b hb => h b (List.mem_cons_of_mem _ hb)
    simp only [List.flatten_cons, List.length_append, List.length_cons, Nat.add_mul]
    omega
theorem nameOk_mem {n : List (List UInt8)} (h : nameOk n = true) : ∀ b ∈ n, 1 ≤ b.length ∧ b.length ≤ 15 := by
  intro b hb
  unfold nameOk at h
  simp only [Bool.and_eq_true, decide_eq_true_eq] at h
  have := List.all_eq_true.1 h.2 b hb
  unfold labelOk at this
  simp only [Bool.and_eq_true, decide_eq_true_eq] at this
  omega
theorem nameOk_flat {n : List (List UInt8)} (h : nameOk n = true) : n.flatten.length ≤ 90 := by
  have h6 := nameOk_len h
  have := flat_mul (m := 15) fun b hb => (nameOk_mem h b hb).2
  have : n.length * 15 ≤ 6 * 15 := Nat.mul_le_mul_right _ h6
  omega
theorem SmallBB.ok {n : List (List UInt8)} (h : nameOk n = true) : SmallBB n := by
  have h6 := nameOk_len h
  have := nameOk_flat h
  exact ⟨by omega, fun b hb => by have := nameOk_mem h b hb; omega, by omega⟩
end Hearth
namespace Hearth
open Go
def rdL (b : List UInt8) (i : Nat) : List (List UInt8) := if i ≤ b.length then (rdAll (b.take i)).1 else readL b
def rdW (b : List UInt8) (i : Nat) : List UInt8 := if i ≤ b.length then (rdAll (b.take i)).2 else []
theorem rd_char {b : List UInt8} {i : Nat} (h : i < b.length) (hc : b[i] ≠ 46) : rdL b (i + 1) = rdL b i ∧ rdW b (i + 1) = rdW b i ++ [b[i]] := by
  unfold rdL rdW
  rw [if_pos (by omega), if_pos (by omega), if_pos (by omega), if_pos (by omega), rdAll_succ _ _ h]
  unfold rdStep
  rw [if_neg hc]
  exact ⟨rfl, rfl⟩
theorem rd_dot {b : List UInt8} {i : Nat} (h : i < b.length) (hc : b[i] = 46) : rdL b (i + 1) = rdL b i ++ [lowerB (rdW b i)] ∧ rdW b (i + 1) = [] := by
  unfold rdL rdW
  rw [if_pos (by omega), if_pos (by omega), if_pos (by omega), if_pos (by omega), rdAll_succ _ _ h]
  unfold rdStep
  rw [if_pos hc]
  exact ⟨rfl, rfl⟩
theorem rd_last {b : List UInt8} : rdL b (b.length + 1) = readL b ∧ rdW b (b.length + 1) = [] := by
  unfold rdL rdW
  rw [if_neg (by omega), if_neg (by omega)]
  exact ⟨rfl, rfl⟩
theorem rd_end {b : List UInt8} : readL b = if rdW b b.length = [] ∧ 0 < b.length then rdL b b.length else rdL b b.length ++ [lowerB (rdW b b.length)] := by
  unfold rdL rdW readL
  rw [if_pos (Nat.le_refl _), if_pos (Nat.le_refl _), List.take_length]
theorem rd_lens (b : List UInt8) (i : Nat) (h : i ≤ b.length) : (rdL b i).length + (rdW b i).length ≤ i := by
  unfold rdL rdW
  rw [if_pos h, if_pos h]
  exact rd_len b i
theorem rdW_mem (b : List UInt8) (i : Nat) : (∀ x ∈ rdL b i, x.length ≤ b.length) ∧ (rdW b i).length ≤ b.length := by
  have key : ∀ (l : List UInt8) (st : List (List UInt8) × List UInt8) (m : Nat), (∀ x ∈ st.1, x.length ≤ m + l.length) → st.2.length ≤ m → (∀ x ∈ (l.foldl rdStep st).1, x.length ≤ m + l.length) ∧ (l.foldl rdStep st).2.length ≤ m + l.length := by
    intro l
    induction l with
    | nil => intro st m h1 h2; exact ⟨by simpa using h1, by simpa using h2⟩
    | cons c l ih =>
      intro st m h1 h2
      have := ih (rdStep st c) (m + 1) (by
        intro x hx
        unfold rdStep at hx
        split at hx
        · rcases List.mem_append.1 hx with hx | hx
          · have := h1 x hx; simp only [List.length_cons] at this; omega
          · simp only [List.mem_singleton] at hx
            subst hx
            simp only [lowerB, List.length_map]; omega
        · have := h1 x hx; simp only [List.length_cons] at this; omega) (by
        unfold rdStep
        split
        · simp
        · simp; omega)
      simp only [List.foldl_cons, List.length_cons]
      refine ⟨fun x hx => ?_, ?_⟩
      · have := this.1 x hx; omega
      · have := this.2; omega
  have all : ∀ j, j ≤ b.length → (∀ x ∈ (rdAll (b.take j)).1, x.length ≤ b.length) ∧ (rdAll (b.take j)).2.length ≤ b.length := by
    intro j hj
    have := key (b.take j) ([], []) 0 (by simp) (by simp)
    have hl : (b.take j).length ≤ b.length := by simp; omega
    exact ⟨fun x hx => by have := this.1 x hx; omega, by have := this.2; unfold rdAll; omega⟩
  unfold rdL rdW
  split
  · exact all i (by assumption)
  · refine ⟨?_, by simp⟩
    have := all b.length (Nat.le_refl _)
    rw [List.take_length] at this
    unfold readL
    split
    · exact this.1
    · intro x hx
      rcases List.mem_append.1 hx with hx | hx
      · exact this.1 x hx
      · simp only [List.mem_singleton] at hx
        subst hx
        simp only [lowerB, List.length_map]; exact this.2
theorem readL_small {b : List UInt8} (h : b.length ≤ 4194303) : (readL b).length ≤ 4194304 ∧ ∀ x ∈ readL b, x.length ≤ 4194304 := by
  have h1 := rdW_mem b (b.length + 1)
  have h2 := rd_lens b b.length (Nat.le_refl _)
  rw [rd_last.1] at h1
  refine ⟨?_, fun x hx => by have := h1.1 x hx; omega⟩
  rw [rd_end]
  split
  · omega
  · simp; omega
theorem eq46 (b : List UInt8) : ((ByteArray.mk b.toArray).toList == (ByteArray.mk #[46]).toList) = decide (b = [46]) := by
  rw [ByteArray.toList_eq, ByteArray.toList_eq]
  rw [Bool.eq_iff_iff]; simp
end Hearth
namespace Hearth
open Go
theorem bt_len (b : ByteArray) : b.toList.length = b.size := by
  rw [ByteArray.toList_eq]; exact Array.length_toList
end Hearth
namespace Hearth
theorem bent_app {l : List (List UInt8)} {z : List UInt8} (h : nameOk l = true) (hz : z.length ≤ 64) : (l ++ [z]).length ≤ 7 ∧ ∀ b ∈ l ++ [z], b.length ≤ 64 := by
  have h6 := nameOk_len h
  refine ⟨by simp; omega, fun b hb => ?_⟩
  rcases List.mem_append.1 hb with hb | hb
  · have := nameOk_mem h b hb; omega
  · simp only [List.mem_singleton] at hb; subst hb; exact hz
theorem bent_ok {l : List (List UInt8)} (h : nameOk l = true) : l.length ≤ 7 ∧ ∀ b ∈ l, b.length ≤ 64 := by
  have h6 := nameOk_len h
  exact ⟨by omega, fun b hb => by have := nameOk_mem h b hb; omega⟩
theorem SmallBB.bent {l : List (List UInt8)} (h : l.length ≤ 7 ∧ ∀ b ∈ l, b.length ≤ 64) : SmallBB l := by
  have := flat_mul (m := 64) h.2
  have : l.length * 64 ≤ 7 * 64 := Nat.mul_le_mul_right _ h.1
  exact ⟨by omega, fun b hb => by have := h.2 b hb; omega, by omega⟩
end Hearth
namespace Hearth
structure drawnR (r : Rr) : Prop where
  n : nameOk r.name = true
  t : nameOk r.to = true
  x : r.text.length ≤ 64
  m : r.nums.length ≤ 64
end Hearth
namespace Hearth
theorem drawnR.small {r : Rr} (h : drawnR r) : SmallR r := ⟨.ok h.n, .ok h.t, by have := h.x; omega, by have := h.m; omega⟩
end Hearth
namespace Hearth
end Hearth
namespace Hearth
section
open Go
variable {α : Type} {P : Program} {k : List It} {Q : Ex → St → Prop} {s : St} {d : Option Nat} {q : Bool} {r : T} {oi : Nat} {tags : List Nat} {f : α → List DV} {l : List α} {sz : Nat}
end
end Hearth

/- Bytes looked for, counted, split. -/
namespace Hearth
open Go Go.RowKit
section
variable {α : Type} {P : Program} {k : List It} {Q : Ex → St → Prop} {s : St} {d : Option Nat} {q : Bool} {r : T} {oi : Nat} {tags : List Nat} {f : α → List DV} {l : List α} {sz : Nat}
end
section
variable {P : Program} {k : List It} {Q : Ex → St → Prop} {s : St} {d : Option Nat} {q : Bool} {r : T} {oi : Nat} {tags : List Nat}
end
section
variable {α : Type} {P : Program} {k : List It} {Q : Ex → St → Prop} {s : St} {d : Option Nat} {q : Bool} {r : T} {oi : Nat} {tags : List Nat} {f : α → List DV} {l : List α} {sz : Nat}
variable {e bytes : Nat} {x y : X} {cx cy : AC} {dp dp' : Bool} {ids : List Nat} {id v ve : Nat} {vk : OK}
end
theorem src_ownB {s : St} {id ver ev : Nat} {dp : Bool} {b : List UInt8} (ho : s.ob id = ⟨ver, ev, .arr dp (encB b)⟩) : s.src (.arr id ver) = some (dp, encB b, []) := by
  simp [St.src, St.obj, ho, noNest_encB]
section
variable {P : Program} {k : List It} {Q : Ex → St → Prop} {s : St} {r : T} {d : Option Nat} {q : Bool} {oi : Nat} {tags : List Nat}
end
end Hearth

/- The abstract machine: a variable's row under another name. -/
namespace Hearth
open Go
theorem Sub.renBox {s : St} (id id1 id2 j : Nat) {ver ev v1 e1 v2 e2 : Nat} {k2 : OK} {cs : List AC} {dp : Bool} {x : DV} (hb : s.ob id = ⟨ver, ev, .box cs⟩) (h1 : s.ob id1 = ⟨v1, e1, .arr dp x⟩) (h2 : s.ob id2 = ⟨v2, e2, k2⟩) (hj : cs[j]? = some (.arr id1 v1)) (hv : Nat.ble 1 v1 = true)
    (hne : (!(Nat.beq id2 id) && !(Nat.beq id1 id) && !(Nat.beq id2 id1) && !(Nat.beq id2 alien)) = true) :
    Sub s ⟨s.sl, upd (upd (upd s.ob id1 ⟨v1 + 1, 0, .dead⟩) id2 ⟨v2 + 1, 0, .arr dp x⟩) id ⟨ver, ev, .box (cs.set j (.arr id2 (v2 + 1)))⟩, []⟩ := by
  simp only [Bool.and_eq_true, Bool.not_eq_true'] at hne
  obtain ⟨⟨⟨hne1, hne2⟩, hne3⟩, hal⟩ := hne
  have hne1 := Nat.ne_of_beq_eq_false hne1
  have hne2 := Nat.ne_of_beq_eq_false hne2
  have hne3 := Nat.ne_of_beq_eq_false hne3
  have hal := Nat.ne_of_beq_eq_false hal
  rintro P N w0 own0 hdr0 a w ⟨own, hdr, r⟩
  obtain ⟨b0, vs0, t0, p1, p2, p3, p4, p5⟩ := r.boxAt (id := id) (cs := cs) (by rw [hb])
  obtain ⟨a1, a2⟩ := r.arrAt (id := id1) (dp := dp) (x := x) (by rw [h1])
  have hal1 : id1 ≠ alien := r.ne_al (by rw [h1]; simp)
  have hu0 : ∀ u, vs0[j]? = some u → u = hdr id1 := fun u hu => by
    have := p5 j _ u hj hu
    exact this.2 (by rw [h1])
  have own1 : ∀ c, own id1 c → c < w.heap.size := fun c hc => r.lt id1 c hc
  have h := (r.hold []).make (id := id2) (ids := [id1]) (k := .arr dp x) (F := own id1) (v := hdr id1) (w' := w) ⟨hal, by simpa using Ne.symm hal1⟩ (by simp) (by simp) (by simpa using hne3) (Ext.refl _ _)
    (fun c hc => ⟨own1 c hc, .inr ⟨id1, .inr (by simp), hc⟩⟩) (fun rc => by
    unfold RO
    rw [ob_new (by simpa using hne3)]
    refine ⟨a1, ?_⟩
    have e1 : hdrTo hdr id2 [id1] (hdr id1) id2 = hdr id1 := by simp [hdrTo]
    have e2 : ownTo own id2 [id1] (own id1) id2 = own id1 := by simp [ownTo]
    rw [e1, e2]
    refine a2.mono (fun h => h) (fun c hc => ⟨rfl, hc.1, fun i hi => ?_⟩) (fun c hc => ⟨rfl, hc⟩)
    simp only [ownTo] at hi
    split at hi
    · exact hc.2 id1 hi
    · split at hi
      · exact hi
      · exact hc.2 i hi)
  obtain ⟨r1, rc1⟩ := h
  have hh : hdrTo hdr id2 [id1] (hdr id1) id2 = hdr id1 := by simp [hdrTo]
  have hhB : hdrTo hdr id2 [id1] (hdr id1) id = hdr id := by simp [hdrTo, Ne.symm hne1, Ne.symm hne2]
  have hob0 : ((({ s with hold := [] } : St).kill [id1]).newOb id2 (.arr dp x)).ob = upd (upd s.ob id1 ⟨v1 + 1, 0, .dead⟩) id2 ⟨v2 + 1, 0, .arr dp x⟩ := by
    funext i
    simp only [St.newOb, St.setOb, St.kill, upd, List.mem_singleton]
    by_cases hi : i = id2
    · simp only [hi, if_true, if_neg hne3, h2]
    · simp only [if_neg hi]
      by_cases hi1 : i = id1
      · simp only [hi1, if_true, h1]
      · simp only [if_neg hi1]
  have hsl0 : ((({ s with hold := [] } : St).kill [id1]).newOb id2 (.arr dp x)).sl = s.sl := rfl
  generalize hS : ((({ s with hold := [] } : St).kill [id1]).newOb id2 (.arr dp x)) = S at r1 rc1 hob0 hsl0
  obtain ⟨ssl, sob, shold⟩ := S
  simp only at hob0 hsl0
  subst hob0 hsl0
  generalize ownTo own id2 [id1] (own id1) = own1 at *
  generalize hdrTo hdr id2 [id1] (hdr id1) = hdr1 at *
  have hob : (upd (upd s.ob id1 ⟨v1 + 1, 0, .dead⟩) id2 ⟨v2 + 1, 0, .arr dp x⟩) id = ⟨ver, ev, .box cs⟩ := by rw [upd_ne _ _ _ _ (Ne.symm hne1), upd_ne _ _ _ _ (Ne.symm hne2)]; exact hb
  have hob2 : (upd (upd s.ob id1 ⟨v1 + 1, 0, .dead⟩) id2 ⟨v2 + 1, 0, OK.arr dp x⟩) id2 = ⟨v2 + 1, 0, .arr dp x⟩ := upd_same _ _ _
  generalize (upd (upd s.ob id1 ⟨v1 + 1, 0, .dead⟩) id2 ⟨v2 + 1, 0, OK.arr dp x⟩) = ob1 at *
  have rc2 : ∀ c u, RC P w own1 hdr1 ob1 c u → RC P w own1 hdr1 (upd ob1 id ⟨ver, ev, .box (cs.set j (.arr id2 (v2 + 1)))⟩) c u := by
    have key : ∀ i, ((upd ob1 id ⟨ver, ev, .box (cs.set j (.arr id2 (v2 + 1)))⟩) i).ver = (ob1 i).ver ∧ ((upd ob1 id ⟨ver, ev, .box (cs.set j (.arr id2 (v2 + 1)))⟩) i).ev = (ob1 i).ev ∧ ((upd ob1 id ⟨ver, ev, .box (cs.set j (.arr id2 (v2 + 1)))⟩) i).k.dv = (ob1 i).k.dv := by
      intro i
      unfold upd
      split
      · rename_i e; subst e; rw [hob]; exact ⟨rfl, rfl, rfl⟩
      · exact ⟨rfl, rfl, rfl⟩
    intro c u hc
    cases c <;> first
      | exact hc
      | (simp only [RC, (key _).1, (key _).2.1, (key _).2.2] at hc ⊢; exact hc)
  refine ⟨own1, hdr1, r1.n, r1.defers, fun t => ?_, fun i => ?_, ?_, ?_, r1.dis, r1.lt, r1.ext, fun i hi => r1.zero i ?_, r1.new, by simp⟩
  · have := r1.tmps t
    have hs : ∀ {x : AV} {u : Value}, RS P w own1 hdr1 ob1 x u → RS P w own1 hdr1 (upd ob1 id ⟨ver, ev, .box (cs.set j (.arr id2 (v2 + 1)))⟩) x u := by
      intro x u hx
      cases x with
      | c c => exact rc2 c u hx
      | g xs => obtain ⟨vs, e1, e2, e3⟩ := hx; exact ⟨vs, e1, e2, fun k x u a b => rc2 x u (e3 k x u a b)⟩
      | t xs =>
        obtain ⟨vs, e1, e2, e3⟩ := hx
        refine ⟨vs, e1, e2, fun k x u a b => ?_⟩
        have := e3 k x u a b
        cases x with
        | c c => exact rc2 c u this
        | g xs => obtain ⟨vs, f1, f2, f3⟩ := this; exact ⟨vs, f1, f2, fun k x u a b => rc2 x u (f3 k x u a b)⟩
        | t xs => exact this
    exact hs this
  · have ho := r1.objs i
    by_cases hi : i = id
    · subst hi
      obtain ⟨b, vs, t, g1, g2, g3, g4, g5⟩ := r1.boxAt (id := i) (cs := cs) (by show (ob1 i).k = _; rw [hob])
      have hvs : vs = vs0 := by
        rw [hhB, p1] at g1
        simp at g1
        subst g1
        rw [p3] at g3
        simp at g3
        exact g3.1.symm
      unfold RO
      simp only [upd_same]
      refine ⟨b, vs, t, g1, g2, g3, by simpa using g4, fun k c u h3 h4 => ?_⟩
      rw [List.getElem?_set] at h3
      split at h3
      · rename_i e
        subst e
        split at h3
        · simp at h3; subst h3
          refine rc2 _ _ ?_
          rw [hvs] at h4
          rw [hu0 u h4]
          show _ ≤ (ob1 id2).ver ∧ (_ = (ob1 id2).ver → _)
          rw [hob2]
          exact ⟨Nat.le_refl _, fun _ => hh.symm⟩
        · simp at h3
      · exact rc2 _ _ (g5 k c u h3 h4)
    · unfold RO at ho ⊢
      simp only [upd_ne _ _ _ _ hi]
      split at ho
      · rename_i hk; simp only [show (ob1 i).k = _ from hk]; exact ho
      · rename_i hk; simp only [show (ob1 i).k = _ from hk]; exact ho
      · rename_i cs' hk
        simp only [show (ob1 i).k = _ from hk]
        obtain ⟨b, vs, t, g1, g2, g3, g4, g5⟩ := ho
        exact ⟨b, vs, t, g1, g2, g3, g4, fun k c u a b => rc2 c u (g5 k c u a b)⟩
      · rename_i hk; simp only [show (ob1 i).k = _ from hk]; exact ho
      · rename_i hk; simp only [show (ob1 i).k = _ from hk]; exact ho
      · rename_i hk; simp only [show (ob1 i).k = _ from hk]; exact ho
  · have hne' : alien ≠ id := fun e => by
      have := r1.al
      rw [e] at this
      change (ob1 id).k = _ at this
      rw [hob] at this
      cases this
    show (upd ob1 id _ alien).k = _
    rw [upd_ne _ _ _ _ hne']; exact r1.al
  · have hne' : alien ≠ id := fun e => by
      have := r1.al
      rw [e] at this
      change (ob1 id).k = _ at this
      rw [hob] at this
      cases this
    show (upd ob1 id _ alien).ver = _
    rw [upd_ne _ _ _ _ hne']; exact r1.alv
  · show (ob1 i).ver = 0
    have hi' : (upd ob1 id ⟨ver, ev, .box (cs.set j (.arr id2 (v2 + 1)))⟩ i).ver = 0 := hi
    unfold upd at hi'
    split at hi'
    · rename_i e; subst e; rw [hob]; exact hi'
    · exact hi'
end Hearth

/- The abstract machine: a variable's own row turned to data. -/
namespace Hearth
open Go
variable {P : Program} {N : Nat} {w0 : World} {own0 : Nat → Nat → Prop} {hdr0 : Nat → Value} {Fr : List ((Nat → Prop) × World)} {own : Nat → Nat → Prop} {hdr : Nat → Value} {s : St} {a : Act} {w : World}
theorem Sub.flat {s : St} (id : Nat) {ver ev : Nat} {dp : Bool} {x : DV} (ho : s.ob id = ⟨ver, ev, .arr dp x⟩) (hv : Nat.ble 1 ver = true) : Sub s ⟨s.sl, upd s.ob id ⟨ver, ev + 1, .flat x⟩, []⟩ := by
  have hv := Nat.le_of_ble_eq_true hv
  rintro P N w0 own0 hdr0 a w ⟨own, hdr, r0⟩
  have r := r0.hold []
  have hk : (({ s with hold := [] } : St).ob id).k = .arr dp x := by show (s.ob id).k = _; rw [ho]
  have hver : (s.ob id).ver = ver := by rw [ho]
  have hev : (s.ob id).ev = ev := by rw [ho]
  obtain ⟨hsl, ht⟩ := r.arrAt hk
  have main : ∃ F : Nat → Prop, (∀ b, F b → own id b) ∧ (Top w (Free w (ownTo own id [] F)) false x.esz x.rows (hdr id) F) ∧
      ∀ (i j : Nat) (cs : List DV) (d : DV), x.rows[i]? = some cs → cs[j]? = some d → ∃ u, SubAt w (hdr id) x.esz i j u ∧ Pers w (Free w (ownTo own id [] F)) d u := by
    rcases ht with ⟨h1, h2⟩ | ⟨b, cap, cur, e, us, Fs, h1, h2, h3, h4, h5, h6, h7, h8, h9, h10, h11⟩
    · refine ⟨fun _ => False, nofun, .inl ⟨h1, h2⟩, fun i j cs d hi _ => ?_⟩
      rw [h1] at hi; simp at hi
    · have free : ∀ c, (Free w own c ∨ (own id c ∧ c ≠ b)) → Free w (ownTo own id [] (fun c => c = b)) c := by
        rintro c (hc | ⟨hc, hcb⟩)
        · refine ⟨hc.1, fun k hk => ?_⟩
          simp only [ownTo] at hk
          split at hk
          · subst hk; exact hc.2 id h3
          · simp at hk; exact hc.2 k hk
        · refine ⟨r.lt id c hc, fun k hk => ?_⟩
          simp only [ownTo] at hk
          split at hk
          · exact hcb hk
          · rename_i hne
            simp at hk
            exact hne (r.dis k id c hk hc)
      have hp : ∀ (i j : Nat) (cs : List DV) (d : DV), x.rows[i]? = some cs → cs[j]? = some d → Pers w (Free w (ownTo own id [] (fun c => c = b))) d (us i j) := fun i j cs d hi hj =>
        (h11 i j cs d hi hj).toPers (fun c hc => free c (.inl hc)) (fun c hc => free c (.inr ⟨(h9 i j c hc).1, (h9 i j c hc).2⟩))
      refine ⟨fun c => c = b, fun c hc => by rw [hc]; exact h3, .inr ⟨b, cap, cur, e, us, fun _ _ _ => False, h1, h2, rfl, h4, h5, h6, h7, h8, nofun, nofun, fun i j cs d hi hj => .pers _ _ _ rfl (hp i j cs d hi hj)⟩, fun i j cs d hi hj => ⟨us i j, ?_, hp i j cs d hi hj⟩⟩
      refine ⟨b, x.rows.length, cap, h1, (List.getElem?_eq_some_iff.1 hi).1, ?_, ?_⟩
      · rw [← h7 i cs hi]; exact (List.getElem?_eq_some_iff.1 hj).1
      · simp [World.cell?, h2, h8 i j cs d hi hj]
  obtain ⟨F, f1, f2, f3⟩ := main
  have h := r.turn (id := id) (ids := []) (k := .flat x) (ev := (s.ob id).ev + 1) (F := F) (w' := w) ⟨r.ne_al (by rw [hk]; simp), by simp⟩ (by simp) (by simp) (by simp) (Ext.refl _ _)
    (fun b hb => ⟨id, .inl rfl, f1 b hb⟩) (fun h => by have : (s.ob id).ver = 0 := h; omega) (Nat.le_succ _) (by rw [hk]; rfl) (fun h => by have : (s.ob id).ev + 1 = (s.ob id).ev := h; omega) (fun rc => by
    unfold RO
    simp only [St.setOb, upd_same]
    have e1 : hdrTo hdr id [] (hdr id) id = hdr id := by simp [hdrTo]
    have e2 : ownTo own id [] F id = F := by simp [ownTo]
    rw [e1, e2]
    exact ⟨⟨hsl, f2⟩, f3⟩)
  rw [St.kill_nil] at h
  have h2 := h.1.hold []
  have e : ({ s with hold := [] } : St).ob id = s.ob id := rfl
  simp only [St.setOb, e, hver, hev] at h2
  exact ⟨_, _, h2⟩
section
variable {α : Type} {P : Program} {k : List It} {Q : Ex → St → Prop} {s : St} {r : T} {d : Option Nat} {q : Bool} {oi : Nat} {tags : List Nat} {f : α → List DV} {l : List α} {sz : Nat}
end
end Hearth

/- Zones: a record that is added; zones as draws make them. -/
namespace Hearth
open Go
def ttlR (r x : Rr) : Rr := if x.name = r.name ∧ x.ty = r.ty then { x with ttl := r.ttl } else x
def addSt (r : Rr) (st : List Rr × Bool) (x : Rr) : List Rr × Bool :=
  let o := if st.2 = false ∧ cmpR r x ≤ 0 then st.1 ++ [r] else st.1
  (if cmpR r x = 0 then o else o ++ [ttlR r x], st.2 || decide (cmpR r x ≤ 0))
def addAt (l : List Rr) (r : Rr) : List Rr × Bool := l.foldl (addSt r) ([], false)
def addL (l : List Rr) (r : Rr) : List Rr := if (addAt l r).2 then (addAt l r).1 else (addAt l r).1 ++ [r]
def addZ (z : Zone) (r : Rr) : Zone := ⟨z.origin, addL z.rrs r⟩
def addOk (z : Zone) (r : Rr) : Bool := zoneOk z && rrOk r && zoneOk (addZ z r)
def addN (z : Zone) (r : Rr) : Zone := if zoneOk z && rrOk r then (if zoneOk (addZ z r) then addZ z r else z) else zeroZ
theorem cmpR_ttl (r x : Rr) : cmpR r (ttlR r x) = cmpR r x := by
  unfold ttlR; split <;> rfl
theorem ttlR_ok {r x : Rr} (hr : rrOk r = true) (hx : rrOk x = true) : rrOk (ttlR r x) = true := by
  unfold ttlR
  split
  · unfold rrOk at *
    simp only [Bool.and_eq_true] at *
    exact ⟨⟨hx.1.1, hr.1.2⟩, hx.2⟩
  · exact hx
theorem ttlR_small {r x : Rr} (hx : SmallR x) : SmallR (ttlR r x) := by
  unfold ttlR
  split
  · exact ⟨hx.n, hx.t, hx.x, hx.m⟩
  · exact hx
theorem addAt_succ (l : List Rr) (r : Rr) (i : Nat) (h : i < l.length) : addAt (l.take (i + 1)) r = addSt r (addAt (l.take i) r) l[i] := by
  unfold addAt; rw [← List.take_append_getElem h, List.foldl_append]; rfl
theorem addAt_len (l : List Rr) (r : Rr) (i : Nat) : (addAt (l.take i) r).1.length ≤ 2 * l.length := by
  have key : ∀ (l : List Rr) (st : List Rr × Bool), (l.foldl (addSt r) st).1.length ≤ st.1.length + 2 * l.length := by
    intro l
    induction l with
    | nil => intro st; simp
    | cons x l ih =>
      intro st
      have := ih (addSt r st x)
      have e : (addSt r st x).1.length ≤ st.1.length + 2 := by
        unfold addSt
        simp only
        split <;> split <;> simp
      simp only [List.foldl_cons, List.length_cons]; omega
  have := key (l.take i) ([], false)
  simp only [List.length_nil, List.length_take] at this
  unfold addAt; omega
theorem addAt_mem (l : List Rr) (r : Rr) (q : Rr → Prop) (h1 : q r) (h2 : ∀ x ∈ l, q (ttlR r x)) : ∀ x ∈ (addAt l r).1, q x := by
  have key : ∀ (l : List Rr) (st : List Rr × Bool), (∀ x ∈ l, q (ttlR r x)) → (∀ x ∈ st.1, q x) → ∀ x ∈ (l.foldl (addSt r) st).1, q x := by
    intro l
    induction l with
    | nil => intro st _ h; exact h
    | cons y l ih =>
      intro st hl hs
      refine ih _ (fun x hx => hl x (List.mem_cons_of_mem _ hx)) ?_
      have ho : ∀ x ∈ (if st.2 = false ∧ cmpR r y ≤ 0 then st.1 ++ [r] else st.1), q x := by
        intro x hx
        split at hx
        · rcases List.mem_append.1 hx with hx | hx
          · exact hs x hx
          · simp only [List.mem_singleton] at hx; rw [hx]; exact h1
        · exact hs x hx
      intro x hx
      unfold addSt at hx
      simp only at hx
      split at hx
      · exact ho x hx
      · rcases List.mem_append.1 hx with hx | hx
        · exact ho x hx
        · simp only [List.mem_singleton] at hx; rw [hx]; exact hl y (List.mem_cons_self ..)
  exact key l ([], false) h2 (by simp)
theorem addL_mem (l : List Rr) (r : Rr) (q : Rr → Prop) (h1 : q r) (h2 : ∀ x ∈ l, q (ttlR r x)) : ∀ x ∈ addL l r, q x := by
  have := addAt_mem l r q h1 h2
  unfold addL
  split
  · exact this
  · intro x hx
    rcases List.mem_append.1 hx with hx | hx
    · exact this x hx
    · simp only [List.mem_singleton] at hx; rw [hx]; exact h1
theorem addL_len (l : List Rr) (r : Rr) : (addL l r).length ≤ 2 * l.length + 1 := by
  have := addAt_len l r l.length
  rw [List.take_length] at this
  unfold addL
  split
  · omega
  · simp; omega
theorem rrOk_small {r : Rr} (h : rrOk r = true) : SmallR r := by
  unfold rrOk at h
  simp only [Bool.and_eq_true, decide_eq_true_eq] at h
  obtain ⟨⟨⟨h1, h2⟩, h3⟩, h4⟩ := h
  unfold dataOk at h4
  simp only [Bool.and_eq_true] at h4
  obtain ⟨⟨⟨k1, k2⟩, k3⟩, k4⟩ := h4
  refine ⟨.ok h1, ?_, ?_, ?_⟩
  · by_cases e : hasTo r.ty = true
    · rw [if_pos e] at k3; exact .ok k3
    · rw [if_neg e] at k3
      simp at k3
      rw [k3]; exact .nil
  · by_cases e : hasText r.ty = true
    · rw [if_pos e] at k4; simp at k4; omega
    · rw [if_neg e] at k4
      simp at k4
      rw [k4]; simp
  · by_cases e : r.ty = 6
    · rw [if_pos (by simpa using e)] at k1
      unfold numsOk at k1
      split at k1
      · omega
      · cases k1
    · rw [if_neg (by simpa using e)] at k1
      simp at k1
      rw [k1]; simp
theorem zoneOk_small {z : Zone} (h : zoneOk z = true) : SmallZ z := by
  have hm := zone_rrs h
  unfold zoneOk at h
  simp only [Bool.and_eq_true, decide_eq_true_eq] at h
  exact ⟨.ok h.1.1.1.1, ⟨by omega, fun r hr => rrOk_small (hm r hr)⟩⟩
theorem zoneOk_pos {z : Zone} (h : zoneOk z = true) : 0 < z.rrs.length ∧ z.rrs.length ≤ 60 := by
  have h2 := topIx_lt h
  unfold zoneOk at h
  simp only [Bool.and_eq_true, decide_eq_true_eq] at h
  omega
theorem addZ_small {z : Zone} {r : Rr} (hz : zoneOk z = true) (hr : rrOk r = true) : SmallZ (addZ z r) := by
  have hs := zoneOk_small hz
  have hp := zoneOk_pos hz
  have := addL_len z.rrs r
  exact ⟨hs.o, ⟨by show (addL z.rrs r).length ≤ _; omega, addL_mem _ _ _ (rrOk_small hr) fun x hx => rrOk_small (ttlR_ok hr (zone_rrs hz x hx))⟩⟩
theorem addN_ok {z : Zone} {r : Rr} (hz : zoneOk z = true) (hr : rrOk r = true) : zoneOk (addN z r) = true := by
  unfold addN
  rw [if_pos (by simp [hz, hr])]
  split
  · assumption
  · exact hz
theorem addN_small {z : Zone} {r : Rr} : SmallZ (addN z r) := by
  unfold addN
  split
  · rename_i h
    simp only [Bool.and_eq_true] at h
    split
    · exact addZ_small h.1 h.2
    · exact zoneOk_small h.1
  · exact .zero
theorem drawn_A {n : List (List UInt8)} {ttl a : Int} (hn : nameOk n = true) (ht : ttl ∈ ([0, 5, 60, 300, 100000] : List Int)) (ha : a ∈ ([1, 167772163, 167772164, 4294967295] : List Int)) : rrOk ⟨n, 1, ttl, a, [], [], []⟩ = true := by
  simp at ht ha
  unfold rrOk dataOk
  rcases ht with rfl | rfl | rfl | rfl | rfl <;> rcases ha with rfl | rfl | rfl | rfl <;> (simp only [hn]; rfl)
theorem drawn_soa {n t : List (List UInt8)} {ttl a b : Int} (hn : nameOk n = true) (hto : nameOk t = true) (ht : ttl ∈ ([0, 5, 60, 300, 100000] : List Int)) (ha : 0 ≤ a ∧ (a < 9 ∨ a = 0)) (hb : b ∈ ([0, 30, 100000] : List Int)) : rrOk ⟨n, 6, ttl, 0, t, [], [a, b]⟩ = true := by
  simp at ht hb
  have h1 : isW a = true := by unfold isW; simp; omega
  unfold rrOk dataOk
  rcases ht with rfl | rfl | rfl | rfl | rfl <;> rcases hb with rfl | rfl | rfl <;> (simp [hn, hto, h1, hasTo, hasText, tyOk])
theorem drawn_to {n t : List (List UInt8)} {ty ttl : Int} (hn : nameOk n = true) (hto : nameOk t = true) (hy : ty ∈ ([1, 1, 2, 5, 6, 12, 16, 49] : List Int)) (h6 : ty ≠ 6) (h1 : hasTo ty = true) (ht : ttl ∈ ([0, 5, 60, 300, 100000] : List Int)) : rrOk ⟨n, ty, ttl, 0, t, [], []⟩ = true := by
  simp at hy ht
  unfold rrOk dataOk
  rcases hy with rfl | rfl | rfl | rfl | rfl | rfl | rfl <;> first | (exact absurd h1 (by decide)) | (exact absurd rfl h6) | (rcases ht with rfl | rfl | rfl | rfl | rfl <;> (simp [hn, hto, hasTo, hasText, tyOk]))
theorem drawn_text {n : List (List UInt8)} {ty ttl : Int} {x : List UInt8} (hn : nameOk n = true) (hy : ty ∈ ([1, 1, 2, 5, 6, 12, 16, 49] : List Int)) (ha : ty ≠ 1) (h1 : hasTo ty = false) (ht : ttl ∈ ([0, 5, 60, 300, 100000] : List Int)) (hx : x.length ≤ 40) : rrOk ⟨n, ty, ttl, 0, [], x, []⟩ = true := by
  simp at hy ht
  unfold rrOk dataOk
  rcases hy with rfl | rfl | rfl | rfl | rfl | rfl | rfl <;> first | (exact absurd h1 (by decide)) | (exact absurd rfl ha) | (rcases ht with rfl | rfl | rfl | rfl | rfl <;> (simp [hn, hasTo, hasText, tyOk]; omega))
end Hearth
namespace Hearth
theorem rrOk_lens {r : Rr} (h : rrOk r = true) : r.nums.length ≤ 2 ∧ r.text.length ≤ 40 := by
  unfold rrOk at h
  simp only [Bool.and_eq_true, decide_eq_true_eq] at h
  obtain ⟨_, h4⟩ := h
  unfold dataOk at h4
  simp only [Bool.and_eq_true] at h4
  obtain ⟨⟨⟨k1, k2⟩, k3⟩, k4⟩ := h4
  constructor
  · by_cases e : r.ty = 6
    · rw [if_pos (by simpa using e)] at k1
      unfold numsOk at k1
      split at k1
      · omega
      · cases k1
    · rw [if_neg (by simpa using e)] at k1
      simp at k1
      rw [k1]; simp
  · by_cases e : hasText r.ty = true
    · rw [if_pos e] at k4; simp at k4; omega
    · rw [if_neg e] at k4
      simp at k4
      rw [k4]; simp
end Hearth
namespace Hearth
def serialN (z : Zone) : Int := if zoneOk z then ((z.rrs.getD (topIx z.rrs).toNat emptyR).nums.getD 0 0) else 0
theorem rdata_soa' {r : Rr} (h : rrOk r = true) (ht : r.ty = 6) : r.nums.length = 2 ∧ 0 ≤ r.nums.getD 0 0 ∧ r.nums.getD 0 0 < 4294967296 := by
  unfold rrOk at h
  simp only [Bool.and_eq_true, decide_eq_true_eq] at h
  obtain ⟨_, h4⟩ := h
  unfold dataOk at h4
  simp only [Bool.and_eq_true] at h4
  have k1 := h4.1.1.1
  rw [if_pos (by simpa using ht)] at k1
  unfold numsOk at k1
  split at k1
  · rename_i hl
    have hl' : r.nums.length = 2 := by omega
    refine ⟨hl', ?_⟩
    simp only [Bool.and_eq_true, decide_eq_true_eq] at k1
    have := k1.1
    unfold isW at this
    simp only [Bool.and_eq_true, decide_eq_true_eq] at this
    rw [List.getD_eq_getElem?_getD, List.getElem?_eq_getElem (by omega)]
    exact this
  · cases k1
theorem serialN_eq {z : Zone} (h : zoneOk z = true) : ∃ (h0 : (topIx z.rrs).toNat < z.rrs.length) (h1 : 0 < (z.rrs[(topIx z.rrs).toNat]).nums.length), serialN z = (z.rrs[(topIx z.rrs).toNat]).nums[0] := by
  have ht := topIx_lt h
  have h0 : (topIx z.rrs).toNat < z.rrs.length := by omega
  have s1 := (rdata_soa' (zone_rrs h _ (List.getElem_mem h0)) (topIx_ty h h0)).1
  have h1 : 0 < (z.rrs[(topIx z.rrs).toNat]).nums.length := by omega
  refine ⟨h0, h1, ?_⟩
  unfold serialN
  have e1 : z.rrs.getD (topIx z.rrs).toNat emptyR = z.rrs[(topIx z.rrs).toNat] := by rw [List.getD_eq_getElem?_getD, List.getElem?_eq_getElem h0]; rfl
  rw [if_pos h, e1, List.getD_eq_getElem?_getD, List.getElem?_eq_getElem h1]; rfl
end Hearth
namespace Hearth
theorem rrOk_to {r : Rr} {n t : List (List UInt8)} (h : rrOk r = true) (hn : nameOk n = true) (ht : (if hasTo r.ty then nameOk t else ((t.length : Int) == 0)) = true) : rrOk ⟨n, r.ty, r.ttl, r.addr, t, r.text, r.nums⟩ = true := by
  unfold rrOk dataOk at *
  simp only [Bool.and_eq_true] at *
  obtain ⟨⟨⟨h1, h2⟩, h3⟩, ⟨⟨⟨k1, k2⟩, k3⟩, k4⟩⟩ := h
  exact ⟨⟨⟨hn, h2⟩, h3⟩, ⟨⟨⟨k1, k2⟩, ht⟩, k4⟩⟩
theorem rrOk_name2 {r : Rr} {n : List (List UInt8)} (h : rrOk r = true) (hn : nameOk n = true) : rrOk ⟨n, r.ty, r.ttl, r.addr, r.to, r.text, r.nums⟩ = true := by
  unfold rrOk dataOk at *
  simp only [Bool.and_eq_true] at *
  obtain ⟨⟨⟨h1, h2⟩, h3⟩, h4⟩ := h
  exact ⟨⟨⟨hn, h2⟩, h3⟩, h4⟩
theorem home_ok : ∀ s ∈ ([1, 7, 4294967295] : List Int), zoneOk (newZ [[104, 111, 109, 101]] s) = true := by decide
end Hearth
namespace Hearth
open Go
section
variable {α : Type} {P : Program} {k : List It} {Q : Ex → St → Prop} {s : St} {d : Option Nat} {q : Bool} {r : T} {oi : Nat} {tags : List Nat} {f : α → List DV} {l : List α} {sz : Nat}
theorem kCutAL {x lo : X} {j : IntKind} {n : Int} {a id ver ev : Nat} {dp : Bool} (hx : s.ev x = .c (.arr id ver)) (ho : s.ob id = ⟨ver, ev, .arr dp (.sl sz (l.map f))⟩) (hh : s.hold.contains id = false) (hv : Nat.ble 1 ver = true) (hlo : s.ev lo = .vv (.int j n)) (hn : n = Int.ofNat a) (ha : n ≤ (l.length : Int))
    (h : kont P (.t r tags :: k) Q .normal ((s.setOb id ⟨ver, ev + 1, .frz (.sl sz (l.map f))⟩).put d (.dv (.sl sz ((l.drop a).map f))))) :
    kont P (.t (.op oi [] d none q (.cut sz x (some lo) none) r) tags :: k) Q .normal s :=
  kCutA (a := a) (b := l.length) hx ho hh (Nat.le_of_ble_eq_true hv) rfl rfl (.inr ⟨j, congrArg some (by subst hn; exact hlo)⟩) (.inl ⟨rfl, (len_map _ _ _).symm⟩) ⟨le_of hn ha, by rw [len_map]; exact Nat.le_refl _⟩ (by rw [cut_map, take_all]; exact h)
end
end Hearth

/- Records are in order: what orders are, and zones as lists in order. -/
namespace Hearth
open Go
structure Cmp {α : Type} (c : α → α → Int) : Prop where
  neg : ∀ a b, c b a = - c a b
  tr : ∀ a b d, c a b ≤ 0 → c b d ≤ 0 → c a d ≤ 0
namespace Cmp
variable {α β : Type} {c c1 c2 : α → α → Int}
theorem lt_le (h : Cmp c) {a b d : α} (h1 : c a b < 0) (h2 : c b d ≤ 0) : c a d < 0 := by
  have h3 := h.tr a b d (by omega) h2
  rcases Int.lt_or_le (c a d) 0 with h4 | h4
  · exact h4
  · have e := h.neg a d
    have := h.tr b d a h2 (by omega)
    have e2 := h.neg a b
    omega
theorem le_lt (h : Cmp c) {a b d : α} (h1 : c a b ≤ 0) (h2 : c b d < 0) : c a d < 0 := by
  have h3 := h.tr a b d h1 (by omega)
  rcases Int.lt_or_le (c a d) 0 with h4 | h4
  · exact h4
  · have e := h.neg a d
    have := h.tr d a b (by omega) h1
    have e2 := h.neg b d
    omega
theorem lt (h : Cmp c) {a b d : α} (h1 : c a b < 0) (h2 : c b d < 0) : c a d < 0 := h.lt_le h1 (by omega)
theorem zero_both (h : Cmp c) {a b d : α} (h1 : c a b ≤ 0) (h2 : c b d ≤ 0) (h3 : c a d = 0) : c a b = 0 ∧ c b d = 0 := by
  rcases Int.lt_or_le (c a b) 0 with h4 | h4
  · have := h.lt_le h4 h2; omega
  · rcases Int.lt_or_le (c b d) 0 with h5 | h5
    · have := h.le_lt h1 h5; omega
    · exact ⟨by omega, by omega⟩
theorem lex (h1 : Cmp c1) (h2 : Cmp c2) : Cmp (fun a b => if c1 a b = 0 then c2 a b else c1 a b) := by
  refine ⟨fun a b => ?_, fun a b d g1 g2 => ?_⟩
  · have e1 := h1.neg a b
    have e2 := h2.neg a b
    show (if c1 b a = 0 then c2 b a else c1 b a) = - (if c1 a b = 0 then c2 a b else c1 a b)
    by_cases h : c1 a b = 0
    · rw [if_pos h, if_pos (by omega)]; exact e2
    · rw [if_neg h, if_neg (by omega)]; exact e1
  · have g1 : (if c1 a b = 0 then c2 a b else c1 a b) ≤ 0 := g1
    have g2 : (if c1 b d = 0 then c2 b d else c1 b d) ≤ 0 := g2
    show (if c1 a d = 0 then c2 a d else c1 a d) ≤ 0
    have k1 : c1 a b ≤ 0 := by
      by_cases h : c1 a b = 0
      · omega
      · rw [if_neg h] at g1; exact g1
    have k2 : c1 b d ≤ 0 := by
      by_cases h : c1 b d = 0
      · omega
      · rw [if_neg h] at g2; exact g2
    by_cases h : c1 a d = 0
    · obtain ⟨z1, z2⟩ := h1.zero_both k1 k2 h
      rw [if_pos z1] at g1
      rw [if_pos z2] at g2
      rw [if_pos h]
      exact h2.tr a b d g1 g2
    · rw [if_neg h]; exact h1.tr a b d k1 k2
theorem comap (h : Cmp c) (f : β → α) : Cmp (fun a b => c (f a) (f b)) := ⟨fun a b => h.neg _ _, fun a b d => h.tr _ _ _⟩
end Cmp
theorem bl_trans : ∀ {a b c : List UInt8}, Op.bytesLess a b = true → Op.bytesLess b c = true → Op.bytesLess a c = true
  | a, [], _, h, _ => by cases a <;> simp [Op.bytesLess] at h
  | _, b :: _, [], _, h => by simp [Op.bytesLess] at h
  | [], b :: x, c :: y, _, _ => rfl
  | a :: z, b :: x, c :: y, h1, h2 => by
    simp only [Op.bytesLess, Bool.or_eq_true, decide_eq_true_eq, Bool.and_eq_true, beq_iff_eq] at *
    rcases h1 with h1 | ⟨rfl, h1⟩ <;> rcases h2 with h2 | ⟨rfl, h2⟩
    · exact .inl (UInt8.lt_trans h1 h2)
    · exact .inl h1
    · exact .inl h2
    · exact .inr ⟨rfl, bl_trans h1 h2⟩
theorem bl_total : ∀ (a b : List UInt8), Op.bytesLess a b = true ∨ a = b ∨ Op.bytesLess b a = true
  | [], [] => .inr (.inl rfl)
  | [], _ :: _ => .inl rfl
  | _ :: _, [] => .inr (.inr rfl)
  | a :: x, b :: y => by
    simp only [Op.bytesLess, Bool.or_eq_true, decide_eq_true_eq, Bool.and_eq_true, beq_iff_eq]
    rcases (show a < b ∨ a = b ∨ b < a by
      rcases Nat.lt_trichotomy a.toNat b.toNat with h | h | h
      · exact .inl (UInt8.lt_iff_toNat_lt.2 h)
      · exact .inr (.inl (UInt8.toNat_inj.1 h))
      · exact .inr (.inr (UInt8.lt_iff_toNat_lt.2 h))) with h | h | h
    · exact .inl (.inl h)
    · subst h
      rcases bl_total x y with h | h | h
      · exact .inl (.inr ⟨rfl, h⟩)
      · subst h; exact .inr (.inl rfl)
      · exact .inr (.inr (.inr ⟨rfl, h⟩))
    · exact .inr (.inr (.inl h))
theorem bl_asymm {a b : List UInt8} (h : Op.bytesLess a b = true) : Op.bytesLess b a = false := by
  cases e : Op.bytesLess b a with
  | false => rfl
  | true => have := bl_trans h e; rw [bytesLess_irrefl] at this; cases this
theorem cmpB_lt {a b : List UInt8} (h : Op.bytesLess a b = true) : cmpB a b = -1 := by unfold cmpB; rw [if_pos h]
theorem cmpB_gt {a b : List UInt8} (h : Op.bytesLess b a = true) : cmpB a b = 1 := by
  have h1 := bl_asymm h
  have hne : a ≠ b := by rintro rfl; rw [bytesLess_irrefl] at h; cases h
  unfold cmpB; rw [if_neg (by simp [h1]), if_pos (by simp [h1, hne])]
theorem cmpB_self (a : List UInt8) : cmpB a a = 0 := (cmpB_iff a a).2 rfl
theorem cmpB_cmp : Cmp cmpB := by
  refine ⟨fun a b => ?_, fun a b d h1 h2 => ?_⟩
  · rcases bl_total a b with h | h | h
    · rw [cmpB_lt h, cmpB_gt h]; rfl
    · subst h; rw [cmpB_self]; rfl
    · rw [cmpB_lt h, cmpB_gt h]
  · rcases bl_total a b with h | h | h
    · rcases bl_total b d with g | g | g
      · rw [cmpB_lt (bl_trans h g)]; decide
      · subst g; rw [cmpB_lt h]; decide
      · rw [cmpB_gt g] at h2; omega
    · subst h; exact h2
    · rw [cmpB_gt h] at h1; omega
theorem cmpL_neg : ∀ (a b : List (List UInt8)), cmpL b a = - cmpL a b
  | [], [] => rfl
  | [], _ :: _ => rfl
  | _ :: _, [] => rfl
  | x :: a, y :: b => by
    have h := cmpB_cmp.neg x y
    simp only [cmpL]
    by_cases e : cmpB x y = 0
    · rw [if_pos e, if_pos (by omega)]; exact cmpL_neg a b
    · rw [if_neg e, if_neg (by omega)]; exact h
theorem cmpL_tr : ∀ (a b d : List (List UInt8)), cmpL a b ≤ 0 → cmpL b d ≤ 0 → cmpL a d ≤ 0
  | [], _, [], _, _ => by simp [cmpL]
  | [], _, _ :: _, _, _ => by simp [cmpL]
  | _ :: _, [], _, h, _ => by simp [cmpL] at h
  | _ :: _, _ :: _, [], _, h => by simp [cmpL] at h
  | x :: a, y :: b, z :: d, h1, h2 => by
    simp only [cmpL] at *
    have k1 : cmpB x y ≤ 0 := by
      by_cases h : cmpB x y = 0
      · omega
      · rw [if_neg h] at h1; exact h1
    have k2 : cmpB y z ≤ 0 := by
      by_cases h : cmpB y z = 0
      · omega
      · rw [if_neg h] at h2; exact h2
    by_cases h : cmpB x z = 0
    · obtain ⟨z1, z2⟩ := cmpB_cmp.zero_both k1 k2 h
      rw [if_pos z1] at h1
      rw [if_pos z2] at h2
      rw [if_pos h]
      exact cmpL_tr a b d h1 h2
    · rw [if_neg h]; exact cmpB_cmp.tr _ _ _ k1 k2
theorem cmpN_cmp : Cmp cmpN := (Cmp.mk cmpL_neg cmpL_tr).comap List.reverse
theorem cmpI_cmp : Cmp cmpI := by
  refine ⟨fun a b => ?_, fun a b d h1 h2 => ?_⟩
  · unfold cmpI; split <;> split <;> omega
  · unfold cmpI at *
    split at h1 <;> split at h2 <;> (try split at h1) <;> (try split at h2) <;> split <;> (try split) <;> omega
theorem cmpR_cmp : Cmp cmpR := (cmpN_cmp.comap Rr.name).lex ((cmpI_cmp.comap Rr.ty).lex (cmpB_cmp.comap rdata))
def Sorted (l : List Rr) : Prop := l.Pairwise fun a b => cmpR a b < 0
theorem sorted_of_prev {l : List Rr} (h : ∀ i < l.length, prevB l i = true) : Sorted l := by
  have step : ∀ i (hi : i + 1 < l.length), cmpR l[i] l[i + 1] < 0 := by
    intro i hi
    have := h (i + 1) hi
    unfold prevB at this
    rw [dif_pos ⟨by omega, hi⟩] at this
    simpa using this
  have far : ∀ (k i : Nat) (hk : i + k + 1 < l.length), cmpR l[i] l[i + k + 1] < 0 := by
    intro k
    induction k with
    | zero => intro i hk; exact step i hk
    | succ k ih =>
      intro i hk
      exact cmpR_cmp.lt (ih i (by omega)) (step (i + k + 1) (by omega))
  unfold Sorted
  rw [List.pairwise_iff_getElem]
  intro i j hi hj hij
  have := far (j - i - 1) i (by omega)
  have e : i + (j - i - 1) + 1 = j := by omega
  simp only [e] at this
  exact this
theorem prev_of_sorted {l : List Rr} (h : Sorted l) (i : Nat) : prevB l i = true := by
  unfold prevB
  split
  · rename_i hi
    unfold Sorted at h
    rw [List.pairwise_iff_getElem] at h
    exact decide_eq_true (h (i - 1) i (by omega) hi.2 (by omega))
  · rfl
structure ZoneP (z : Zone) : Prop where
  o : nameOk z.origin = true
  len : z.rrs.length ≤ 60
  ok : ∀ r ∈ z.rrs, rrOk r = true
  sorted : Sorted z.rrs
  under : ∀ r ∈ z.rrs, underN r.name z.origin = true
  top : ∀ r ∈ z.rrs, r.ty = 6 → r.name = z.origin
  alone : ∀ r ∈ z.rrs, r.ty = 5 → (setOf z.rrs r.name 255).length ≤ 1
  one : zTops z.rrs = 1
theorem zoneP {z : Zone} : zoneOk z = true ↔ ZoneP z := by
  constructor
  · intro h
    have hm := zone_rrs h
    unfold zoneOk at h
    simp only [Bool.and_eq_true, decide_eq_true_eq, List.all_eq_true, List.mem_range] at h
    obtain ⟨⟨⟨⟨h1, h2⟩, h3⟩, h4⟩, h5⟩ := h
    have at_ : ∀ i (hi : i < z.rrs.length), underN z.rrs[i].name z.origin = true ∧ prevB z.rrs i = true ∧ aloneR z.rrs i = true ∧ (z.rrs[i].ty = 6 → z.rrs[i].name = z.origin) := by
      intro i hi
      have := h4 i hi
      rw [zAt_eq hi] at this
      simp only [Bool.and_eq_true, Bool.or_eq_true, Bool.not_eq_true', beq_eq_false_iff_ne, decide_eq_true_eq] at this
      exact ⟨this.1.1.1, this.1.1.2, this.1.2, fun e => this.2.resolve_left fun h => h e⟩
    refine ⟨h1, h2, hm, sorted_of_prev fun i hi => (at_ i hi).2.1, fun r hr => ?_, fun r hr => ?_, fun r hr h5 => ?_, h5⟩
    · obtain ⟨i, hi, rfl⟩ := List.mem_iff_getElem.1 hr
      exact (at_ i hi).1
    · obtain ⟨i, hi, rfl⟩ := List.mem_iff_getElem.1 hr
      exact (at_ i hi).2.2.2
    · obtain ⟨i, hi, rfl⟩ := List.mem_iff_getElem.1 hr
      have := (at_ i hi).2.2.1
      rw [aloneR_eq hi] at this
      simpa [h5] using this
  · intro h
    unfold zoneOk
    simp only [Bool.and_eq_true, decide_eq_true_eq, List.all_eq_true, List.mem_range]
    refine ⟨⟨⟨⟨h.o, h.len⟩, h.ok⟩, fun i hi => ?_⟩, h.one⟩
    rw [zAt_eq hi]
    have hr := List.getElem_mem hi
    simp only [Bool.and_eq_true, Bool.or_eq_true, Bool.not_eq_true', beq_eq_false_iff_ne, decide_eq_true_eq]
    refine ⟨⟨⟨h.under _ hr, prev_of_sorted h.sorted i⟩, ?_⟩, ?_⟩
    · rw [aloneR_eq hi]
      by_cases e : z.rrs[i].ty = 5
      · simp [e, h.alone _ hr e]
      · simp [e]
    · by_cases e : z.rrs[i].ty = 6
      · exact .inr (h.top _ hr e)
      · exact .inl e
end Hearth
namespace Hearth
end Hearth
namespace Hearth
end Hearth
namespace Hearth
end Hearth
namespace Hearth
end Hearth

/- Messages: questions, records that are wanted, what they are written as. -/
namespace Hearth
open Go
structure Want where
  rr : Rr
  cls : Int
  bare : Bool
  deriving DecidableEq
def Want.cells (w : Want) : List DV := [encBB w.rr.name, .sc (.int .i64 w.rr.ty), .sc (.int .i64 w.rr.ttl), .sc (.int .i64 w.rr.addr), encBB w.rr.to, encB w.rr.text, encI w.rr.nums, .sc (.int .i64 w.cls), .sc (.bool w.bare)]
abbrev encW (l : List Want) : DV := encL 9 Want.cells l
structure SmallW (w : Want) : Prop where
  r : SmallR w.rr
structure SmallWs (l : List Want) : Prop where
  len : l.length ≤ 4194304
  mem : ∀ w ∈ l, SmallW w
structure Msg where
  id : Int
  reply : Bool
  op : Int
  auth : Bool
  code : Int
  qs : List Qn
  an : List Rr
  au : List Rr
  mo : List Rr
  pr : List Want
  up : List Want
  deriving DecidableEq
def Msg.cells (m : Msg) : List DV := [.sc (.int .i64 m.id), .sc (.bool m.reply), .sc (.int .i64 m.op), .sc (.bool m.auth), .sc (.int .i64 m.code), encQ m.qs, encR m.an, encR m.au, encR m.mo, encW m.pr, encW m.up]
structure SmallM (m : Msg) : Prop where
  q : SmallQs m.qs
  a : SmallRs m.an
  b : SmallRs m.au
  c : SmallRs m.mo
  p : SmallWs m.pr
  u : SmallWs m.up
def wantOk (w : Want) : Bool :=
  if w.cls ≠ 1 ∧ w.cls ≠ 254 ∧ w.cls ≠ 255 then false
  else if w.bare then !(w.cls == 1) && nameOk w.rr.name && askedT w.rr.ty && w.rr.ttl == 0 && w.rr.addr == 0 && w.rr.to.isEmpty && w.rr.text.isEmpty && w.rr.nums.isEmpty
  else !(w.cls == 255) && rrOk w.rr && (w.cls == 1 || w.rr.ttl == 0)
def wantsOk (l : List Want) : Bool := decide ((l.length : Int) ≤ 12) && l.all wantOk
def msgMay (m : Msg) : Bool :=
  (decide (0 ≤ m.id) && decide (m.id ≤ 65535)) && (decide (0 ≤ m.code) && decide (m.code ≤ 10)) && (decide (m.qs.length = 1) && nameOk (m.qs.getD 0 ⟨[], 0⟩).name && askedT (m.qs.getD 0 ⟨[], 0⟩).ty) &&
  (rrsOk m.an && rrsOk m.au && rrsOk m.mo && wantsOk m.pr && wantsOk m.up) &&
  (if m.op = 0 then decide (m.pr.length + m.up.length = 0) else if m.op = 5 then (m.qs.getD 0 ⟨[], 0⟩).ty == 6 && decide (m.an.length + m.au.length + m.mo.length = 0) else false)
theorem wireN_small {n : List (List UInt8)} (h : nameOk n = true) : (wireN n).length ≤ 97 := by
  have h1 := nameOk_len h
  have h2 := nameOk_flat h
  rw [wireN_len]; omega
def rrB (r : Rr) (c : Int) : List UInt8 := wireN r.name ++ w2 r.ty ++ w2 c ++ w4 r.ttl ++ w2 ((rdata r).length : Int) ++ rdata r
def wantB (w : Want) : List UInt8 := if w.bare then wireN w.rr.name ++ w2 w.rr.ty ++ w2 w.cls ++ w4 0 ++ w2 0 else rrB w.rr w.cls
theorem w2_len (n : Int) : (w2 n).length = 2 := rfl
theorem tyOk_rng {t : Int} (h : tyOk t = true) : 0 ≤ t ∧ t ≤ 49 := by
  unfold tyOk at h; simp at h; omega
theorem askedT_rng {t : Int} (h : askedT t = true) : 0 ≤ t ∧ t ≤ 255 := by
  unfold askedT at h
  simp only [Bool.or_eq_true] at h
  rcases h with h | h
  · have := tyOk_rng h; omega
  · simp at h; omega
def headB (m : Msg) (f a b : Int) : List UInt8 := w2 m.id ++ w2 f ++ w2 1 ++ w2 a ++ w2 b ++ w2 m.mo.length ++ wireN (m.qs.getD 0 ⟨[], 0⟩).name ++ w2 (m.qs.getD 0 ⟨[], 0⟩).ty ++ w2 1
def msgB (m : Msg) (f a b : Int) : List UInt8 := headB m f a b ++ m.pr.flatMap wantB ++ m.up.flatMap wantB ++ (m.an ++ m.au ++ m.mo).flatMap fun r => rrB r 1
def msgLen (m : Msg) : Nat := (msgB m 0 0 0).length
def msgOk (m : Msg) : Bool := msgMay m && decide (msgLen m ≤ 512)
structure MayP (m : Msg) : Prop where
  id : 0 ≤ m.id ∧ m.id ≤ 65535
  cd : 0 ≤ m.code ∧ m.code ≤ 10
  q1 : m.qs.length = 1
  qn : nameOk (m.qs.getD 0 ⟨[], 0⟩).name = true
  qt : 0 ≤ (m.qs.getD 0 ⟨[], 0⟩).ty ∧ (m.qs.getD 0 ⟨[], 0⟩).ty ≤ 255
  an : m.an.length ≤ 12 ∧ ∀ r ∈ m.an, rrOk r = true
  au : m.au.length ≤ 12 ∧ ∀ r ∈ m.au, rrOk r = true
  mo : m.mo.length ≤ 12 ∧ ∀ r ∈ m.mo, rrOk r = true
  pr : m.pr.length ≤ 12 ∧ ∀ w ∈ m.pr, wantOk w = true
  up : m.up.length ≤ 12 ∧ ∀ w ∈ m.up, wantOk w = true
  op : m.op = 0 ∧ m.pr = [] ∧ m.up = [] ∨ m.op = 5 ∧ m.an = [] ∧ m.au = [] ∧ m.mo = []
theorem rrsOk_p {l : List Rr} (h : rrsOk l = true) : l.length ≤ 12 ∧ ∀ r ∈ l, rrOk r = true := by
  unfold rrsOk at h
  simp only [Bool.and_eq_true, decide_eq_true_eq] at h
  exact ⟨by omega, List.all_eq_true.1 h.2⟩
theorem wantsOk_p {l : List Want} (h : wantsOk l = true) : l.length ≤ 12 ∧ ∀ r ∈ l, wantOk r = true := by
  unfold wantsOk at h
  simp only [Bool.and_eq_true, decide_eq_true_eq] at h
  exact ⟨by omega, List.all_eq_true.1 h.2⟩
theorem MayP.of {m : Msg} (h : msgMay m = true) : MayP m := by
  unfold msgMay at h
  simp only [Bool.and_eq_true, decide_eq_true_eq] at h
  obtain ⟨⟨⟨⟨h1, h2⟩, ⟨h3, h4⟩, h5⟩, ⟨⟨⟨h6, h7⟩, h8⟩, h9⟩, h10⟩, h11⟩ := h
  refine ⟨h1, h2, h3, h4, askedT_rng h5, rrsOk_p h6, rrsOk_p h7, rrsOk_p h8, wantsOk_p h9, wantsOk_p h10, ?_⟩
  split at h11
  · rename_i e
    simp only [decide_eq_true_eq] at h11
    exact .inl ⟨e, List.eq_nil_of_length_eq_zero (by omega), List.eq_nil_of_length_eq_zero (by omega)⟩
  · split at h11
    · rename_i e
      simp only [Bool.and_eq_true, decide_eq_true_eq] at h11
      exact .inr ⟨e, List.eq_nil_of_length_eq_zero (by omega), List.eq_nil_of_length_eq_zero (by omega), List.eq_nil_of_length_eq_zero (by omega)⟩
    · cases h11
section
variable {P : Program} {k : List It} {Q : Ex → St → Prop} {s : St} {r : T} {d : Option Nat} {q : Bool} {oi : Nat} {tags : List Nat}
end
end Hearth

/- Answers of zones. -/
namespace Hearth
open Go
def zTopR (z : Zone) : Rr := z.rrs.getD (topIx z.rrs).toNat emptyR
structure AnsP (z : Zone) (m : Msg) (k : Nat) (o : Msg) : Prop where
  id : o.id = m.id
  rp : o.reply = true
  op : o.op = m.op
  qs : o.qs = [m.qs.getD 0 ⟨[], 0⟩]
  an : o.an.length ≤ 60 * k ∧ ∀ r ∈ o.an, r ∈ z.rrs
  au : o.au = []
  mo : o.mo = []
  pr : o.pr = []
  up : o.up = []
  cd : o.code = 0
structure AnsE (z : Zone) (m : Msg) (o : Msg) : Prop where
  id : o.id = m.id
  rp : o.reply = true
  op : o.op = m.op
  qs : o.qs = [m.qs.getD 0 ⟨[], 0⟩]
  an : o.an.length ≤ 360 ∧ ∀ r ∈ o.an, r ∈ z.rrs
  au : o.au.length ≤ 60 ∧ ∀ r ∈ o.au, r ∈ z.rrs
  mo : o.mo.length ≤ 3600 ∧ ∀ r ∈ o.mo, r ∈ z.rrs
  pr : o.pr = []
  up : o.up = []
theorem zone_look {z : Zone} {n : List (List UInt8)} {t : Int} (hz : zoneOk z = true) : (lookupN z n t).1.length ≤ 60 ∧ ∀ r ∈ (lookupN z n t).1, r ∈ z.rrs := by
  obtain ⟨f, hf⟩ := lookup_filter z n t
  have := zoneOk_pos hz
  rw [hf]
  exact ⟨Nat.le_trans (List.length_filter_le _ _) this.2, fun r hr => (List.mem_filter.1 hr).1⟩
theorem zTopR_mem {z : Zone} (hz : zoneOk z = true) : zTopR z ∈ z.rrs := by
  have h := topIx_lt hz
  unfold zTopR
  rw [List.getD_eq_getElem?_getD, List.getElem?_eq_getElem (by omega)]
  exact List.getElem_mem _
theorem AnsP.e {z : Zone} {m o : Msg} {k : Nat} (h : AnsP z m k o) (hk : k ≤ 6) : AnsE z m o :=
  ⟨h.id, h.rp, h.op, h.qs, ⟨by have := h.an.1; omega, h.an.2⟩, by rw [h.au]; exact ⟨by simp, nofun⟩, by rw [h.mo]; exact ⟨by simp, nofun⟩, h.pr, h.up⟩
theorem AnsP.more {z : Zone} {m o : Msg} {k : Nat} {n : List (List UInt8)} {t : Int} (hz : zoneOk z = true) (h : AnsP z m k o) : AnsP z m (k + 1) { o with auth := true, an := o.an ++ (lookupN z n t).1 } := by
  have hl := zone_look (n := n) (t := t) hz
  exact ⟨h.id, h.rp, h.op, h.qs, ⟨by show (o.an ++ _).length ≤ _; rw [List.length_append]; have := h.an.1; omega, fun r hr => (List.mem_append.1 hr).elim (h.an.2 r) (hl.2 r)⟩, h.au, h.mo, h.pr, h.up, h.cd⟩
theorem AnsE.small {z : Zone} {m o : Msg} (hz : zoneOk z = true) (hm : msgOk m = true) (h : AnsE z m o) : SmallM o := by
  have hr := zone_rrs hz
  have hq : SmallBB (m.qs.getD 0 ⟨[], 0⟩).name := .ok (MayP.of (by unfold msgOk at hm; simp only [Bool.and_eq_true] at hm; exact hm.1)).qn
  refine ⟨?_, ⟨by have := h.an.1; omega, fun r hx => rrOk_small (hr r (h.an.2 r hx))⟩, ⟨by have := h.au.1; omega, fun r hx => rrOk_small (hr r (h.au.2 r hx))⟩, ⟨by have := h.mo.1; omega, fun r hx => rrOk_small (hr r (h.mo.2 r hx))⟩, ?_, ?_⟩
  · rw [h.qs]; exact ⟨by simp, fun q hx => by simp only [List.mem_singleton] at hx; rw [hx]; exact hq⟩
  · rw [h.pr]; exact ⟨by simp, nofun⟩
  · rw [h.up]; exact ⟨by simp, nofun⟩
end Hearth
namespace Hearth
theorem SmallRs.app {l : List Rr} {r : Rr} {k : Nat} (h : l.length ≤ k ∧ ∀ x ∈ l, SmallR x) (hr : SmallR r) : (l ++ [r]).length ≤ k + 1 ∧ ∀ x ∈ l ++ [r], SmallR x := by
  refine ⟨by rw [List.length_append]; simp only [List.length_cons, List.length_nil]; omega, fun b hb => ?_⟩
  rcases List.mem_append.1 hb with hb | hb
  · exact h.2 b hb
  · simp only [List.mem_singleton] at hb; subst hb; exact hr
theorem SmallWs.app {l : List Want} {r : Want} {k : Nat} (h : l.length ≤ k ∧ ∀ x ∈ l, SmallW x) (hr : SmallW r) : (l ++ [r]).length ≤ k + 1 ∧ ∀ x ∈ l ++ [r], SmallW x := by
  refine ⟨by rw [List.length_append]; simp only [List.length_cons, List.length_nil]; omega, fun b hb => ?_⟩
  rcases List.mem_append.1 hb with hb | hb
  · exact h.2 b hb
  · simp only [List.mem_singleton] at hb; subst hb; exact hr
structure DrawnM (m : Msg) : Prop where
  q : ∃ n t, m.qs = [⟨n, t⟩] ∧ nameOk n = true
  a : m.an.length ≤ 12 ∧ ∀ r ∈ m.an, SmallR r
  b : m.au.length ≤ 12 ∧ ∀ r ∈ m.au, SmallR r
  c : m.mo.length ≤ 12 ∧ ∀ r ∈ m.mo, SmallR r
  p : m.pr.length ≤ 12 ∧ ∀ r ∈ m.pr, SmallW r
  u : m.up.length ≤ 12 ∧ ∀ r ∈ m.up, SmallW r
theorem DrawnM.small {m : Msg} (h : DrawnM m) : SmallM m := by
  obtain ⟨⟨n, t, hq, hn⟩, ha, hb, hc, hp, hu⟩ := h
  refine ⟨by rw [hq]; exact ⟨by simp, fun q hx => by simp only [List.mem_singleton] at hx; rw [hx]; exact .ok hn⟩, ⟨by omega, ha.2⟩, ⟨by omega, hb.2⟩, ⟨by omega, hc.2⟩, ⟨by omega, hp.2⟩, ⟨by omega, hu.2⟩⟩
end Hearth
namespace Hearth
open Go
section
variable {P : Program} {k : List It} {Q : Ex → St → Prop}
end
end Hearth

/- Updates, as draws make them. -/
namespace Hearth
open Go
theorem addAt_spec (r : Rr) : ∀ (l : List Rr) (st : List Rr × Bool), (st.2 = true → r ∈ st.1) →
    ((l.foldl (addSt r) st).2 = true → r ∈ (l.foldl (addSt r) st).1) ∧
    (∀ x, x ∈ (l.foldl (addSt r) st).1 ↔ x ∈ st.1 ∨ ((l.foldl (addSt r) st).2 = true ∧ x = r) ∨ ∃ y ∈ l, cmpR r y ≠ 0 ∧ x = ttlR r y) ∧
    ((l.foldl (addSt r) st).1.length = st.1.length + (if (l.foldl (addSt r) st).2 = true ∧ st.2 = false then 1 else 0) + (l.filter fun y => cmpR r y != 0).length) ∧
    (st.2 = true → (l.foldl (addSt r) st).2 = true)
  | [], st, h => by
    refine ⟨h, fun x => ?_, ?_, fun h => h⟩
    · simp only [List.foldl_nil, List.not_mem_nil, false_and, exists_false, or_false]
      exact ⟨fun hx => .inl hx, fun hx => hx.elim id fun ⟨e, hx⟩ => hx ▸ h e⟩
    · have : ¬ (st.2 = true ∧ st.2 = false) := by rintro ⟨a, b⟩; rw [a] at b; cases b
      simp [this]
  | y :: l, st, h => by
    simp only [List.foldl_cons]
    have h' : (addSt r st y).2 = true → r ∈ (addSt r st y).1 := by
      unfold addSt
      simp only [Bool.or_eq_true, decide_eq_true_eq]
      intro hp
      have hm : r ∈ (if st.2 = false ∧ cmpR r y ≤ 0 then st.1 ++ [r] else st.1) := by
        by_cases hs : st.2 = true
        · rw [if_neg (by simp [hs])]; exact h hs
        · rw [if_pos ⟨by simpa using hs, hp.resolve_left hs⟩]; simp
      split
      · exact hm
      · exact List.mem_append_left _ hm
    obtain ⟨i1, i2, i3, i4⟩ := addAt_spec r l (addSt r st y) h'
    have e2 : (addSt r st y).2 = (st.2 || decide (cmpR r y ≤ 0)) := rfl
    have e1 : (addSt r st y).1 = if cmpR r y = 0 then (if st.2 = false ∧ cmpR r y ≤ 0 then st.1 ++ [r] else st.1) else (if st.2 = false ∧ cmpR r y ≤ 0 then st.1 ++ [r] else st.1) ++ [ttlR r y] := rfl
    refine ⟨i1, fun x => ?_, ?_, fun hs => i4 (by rw [e2, hs]; rfl)⟩
    · rw [i2, e1]
      constructor
      · rintro (hx | hx | ⟨z, hz, hx⟩)
        · have hb : x ∈ (if st.2 = false ∧ cmpR r y ≤ 0 then st.1 ++ [r] else st.1) → x ∈ st.1 ∨ ((l.foldl (addSt r) (addSt r st y)).2 = true ∧ x = r) := by
            intro hx
            split at hx
            · rename_i hc
              rcases List.mem_append.1 hx with hx | hx
              · exact .inl hx
              · simp only [List.mem_singleton] at hx
                exact .inr ⟨i4 (by rw [e2]; simp [hc.2]), hx⟩
            · exact .inl hx
          split at hx
          · exact (hb hx).imp id .inl
          · rename_i hne
            rcases List.mem_append.1 hx with hx | hx
            · exact (hb hx).imp id .inl
            · simp only [List.mem_singleton] at hx
              exact .inr (.inr ⟨y, List.mem_cons_self .., hne, hx⟩)
        · exact .inr (.inl hx)
        · exact .inr (.inr ⟨z, List.mem_cons_of_mem _ hz, hx⟩)
      · have hb : x ∈ st.1 → x ∈ (if st.2 = false ∧ cmpR r y ≤ 0 then st.1 ++ [r] else st.1) := by
          intro hx; split
          · exact List.mem_append_left _ hx
          · exact hx
        rintro (hx | hx | ⟨z, hz, hne, hx⟩)
        · left
          split
          · exact hb hx
          · exact List.mem_append_left _ (hb hx)
        · exact .inr (.inl hx)
        · rcases List.mem_cons.1 hz with rfl | hz
          · left
            rw [if_neg hne]
            exact List.mem_append_right _ (by simp [hx])
          · exact .inr (.inr ⟨z, hz, hne, hx⟩)
    · rw [i3, e1, e2, List.filter_cons]
      have hle : cmpR r y = 0 → cmpR r y ≤ 0 := fun h => by omega
      have h4 : (addSt r st y).2 = true → (l.foldl (addSt r) (addSt r st y)).2 = true := i4
      rw [e2] at h4
      cases hs : st.2 with
      | true =>
        rw [hs] at h4
        simp only [Bool.true_or, true_implies] at h4
        by_cases hc : cmpR r y = 0
        · simp [hc]
        · simp [hc, h4]; omega
      | false =>
        rw [hs] at h4
        by_cases hl : cmpR r y ≤ 0
        · have h5 : (l.foldl (addSt r) (addSt r st y)).2 = true := h4 (by simp [hl])
          by_cases hc : cmpR r y = 0
          · simp [hc, h5]
          · simp [hc, hl, h5]; omega
        · have hc : ¬ cmpR r y = 0 := fun h => hl (hle h)
          simp [hc, hl]
          split <;> omega
theorem mem_addL {l : List Rr} {r x : Rr} : x ∈ addL l r ↔ x = r ∨ ∃ y ∈ l, cmpR r y ≠ 0 ∧ x = ttlR r y := by
  obtain ⟨h1, h2, _, _⟩ := addAt_spec r l ([], false) nofun
  change ((addAt l r).2 = true → r ∈ (addAt l r).1) at h1
  change ∀ x, x ∈ (addAt l r).1 ↔ x ∈ [] ∨ ((addAt l r).2 = true ∧ x = r) ∨ ∃ y ∈ l, cmpR r y ≠ 0 ∧ x = ttlR r y at h2
  unfold addL
  split
  · rename_i hp
    rw [h2]; simp [hp]
  · rename_i hp
    rw [List.mem_append, h2]
    simp [hp]
    constructor
    · rintro (h | h)
      · exact .inr h
      · exact .inl h
    · rintro (h | h)
      · exact .inr h
      · exact .inl h
theorem addL_length (l : List Rr) (r : Rr) : (addL l r).length = 1 + (l.filter fun y => cmpR r y != 0).length := by
  obtain ⟨_, _, h3, _⟩ := addAt_spec r l ([], false) nofun
  change (addAt l r).1.length = 0 + (if (addAt l r).2 = true ∧ false = false then 1 else 0) + (l.filter fun y => cmpR r y != 0).length at h3
  unfold addL
  split
  · rename_i hp
    rw [h3]; simp [hp]
  · rename_i hp
    rw [List.length_append, h3]; simp [hp]; omega
theorem addL_le (l : List Rr) (r : Rr) : (addL l r).length ≤ l.length + 1 := by
  rw [addL_length]
  have := List.length_filter_le (fun y => cmpR r y != 0) l
  omega
structure ZI (k : Nat) (z : Zone) : Prop where
  o : nameOk z.origin = true
  len : z.rrs.length ≤ k
  ok : ∀ r ∈ z.rrs, rrOk r = true
  soa : ∃ r ∈ z.rrs, r.ty = 6 ∧ r.name = z.origin
theorem ZI.small {k : Nat} {z : Zone} (h : ZI k z) (hk : k ≤ 1000000) : SmallZ z := ⟨.ok h.o, ⟨by have := h.len; omega, fun r hr => rrOk_small (h.ok r hr)⟩⟩
theorem ZI.mono {k j : Nat} {z : Zone} (h : ZI k z) (hk : k ≤ j) : ZI j z := ⟨h.o, Nat.le_trans h.len hk, h.ok, h.soa⟩
theorem ZI.of {z : Zone} (h : zoneOk z = true) : ZI 60 z := by
  have hp := zoneP.1 h
  have ht := topIx_lt h
  refine ⟨hp.o, hp.len, hp.ok, ?_⟩
  have hm := zTopR_mem h
  have h6 : (zTopR z).ty = 6 := by
    have hx := ht
    unfold topIx idx at hx
    unfold zTopR topIx idx
    cases hf : z.rrs.findIdx? (fun r => r.ty == 6) with
    | none => rw [hf] at hx; simp at hx
    | some i =>
      rw [List.findIdx?_eq_some_iff_getElem] at hf
      obtain ⟨h1, h2, _⟩ := hf
      simp only [Int.toNat_natCast]
      rw [List.getD_eq_getElem?_getD, List.getElem?_eq_getElem h1]
      simpa using h2
  exact ⟨_, hm, h6, hp.top _ hm h6⟩
theorem ttlR_name (r x : Rr) : (ttlR r x).name = x.name ∧ (ttlR r x).ty = x.ty := by
  unfold ttlR; split <;> exact ⟨rfl, rfl⟩
theorem ZI.add {k : Nat} {z : Zone} {r : Rr} (h : ZI k z) (hr : rrOk r = true) : ZI (k + 1) ⟨z.origin, addL z.rrs r⟩ := by
  refine ⟨h.o, by have := addL_le z.rrs r; have := h.len; show (addL z.rrs r).length ≤ _; omega, addL_mem _ _ _ hr fun x hx => ttlR_ok hr (h.ok x hx), ?_⟩
  obtain ⟨x, hx, h6, hn⟩ := h.soa
  by_cases hc : cmpR r x = 0
  · have := (cmpR_iff r x).1 hc
    exact ⟨r, mem_addL.2 (.inl rfl), by rw [this.2.1, h6], by rw [this.1, hn]⟩
  · exact ⟨ttlR r x, mem_addL.2 (.inr ⟨x, hx, hc, rfl⟩), by rw [(ttlR_name r x).2, h6], by rw [(ttlR_name r x).1, hn]⟩
theorem ZI.filter {k : Nat} {z : Zone} (h : ZI k z) (f : Rr → Bool) (hf : ∀ r, r.ty = 6 → f r = true) : ZI k ⟨z.origin, z.rrs.filter f⟩ := by
  refine ⟨h.o, Nat.le_trans (List.length_filter_le _ _) h.len, fun r hr => h.ok r (List.mem_filter.1 hr).1, ?_⟩
  obtain ⟨x, hx, h6, hn⟩ := h.soa
  exact ⟨x, List.mem_filter.2 ⟨hx, hf x h6⟩, h6, hn⟩
end Hearth

/- The abstract machine: functions whose contracts are told by states. -/
namespace Hearth
open Go
def St.begO (args : List AV) (lo : List (Nat × OK)) : St where
  sl := fun t => match args[t]? with
    | some x => x
    | none => .c .un
  ob := obTab 0 (iniT lo)
  hold := []
def EndS (lo : List (Nat × OK)) (slots : List RSl) (R : List RA → List (Nat × OK) → Prop) (e : Ex) (s : St) : Prop :=
  (∀ id, e ≠ .exit id) ∧ ∃ t, Sub s t ∧ ∃ ra lo', R ra lo' ∧ kds lo' = kds lo ∧ t.resAts slots = some (ra.map raV) ∧ t.ob = obTab 1 (finT lo')
theorem FnOS.ofK {P : Program} {f : FuncId} {fn : Func} {c' : C} {loud : List Nat} {slots : List RSl} {args : List AV} {lo : List (Nat × OK)} {R : List RA → List (Nat × OK) → Prop} (hf : P.funcs[f]? = some fn) (hname : (fn.name == "runtime.NumGoroutine") = false)
    (hd : fn.body.bind (digC P fn.ntmps loud) = some c') (hr : resSlots P fn = some slots) (hN' : Nat.ble args.length fn.ntmps = true) (hal : loAt lo alien = none)
    (h : kont P [.c c'] (EndS lo slots R) .normal (.begO args lo)) : FnOS P f args lo R := by
  obtain ⟨c, hb, hd⟩ := Option.bind_eq_some_iff.1 hd
  have hN := Nat.le_of_ble_eq_true hN'
  refine ⟨⟨fn, hf, by rw [hb]; rfl, hname⟩, fun w own hdr vs hl hv hobj hdis hlt => ?_⟩
  have alB : obTab 0 (iniT lo) alien = ⟨0, 0, .ext⟩ := by rw [iniT_at, hal]; rfl
  have r : RelX P fn.ntmps w own hdr [] own hdr (.begO args lo) { tmps := vs ++ Array.replicate (fn.ntmps - vs.size) undef, defers := [] } w := by
    refine ⟨by simp; omega, rfl, fun t => ?_, hobj, by show (obTab 0 (iniT lo) alien).k = _; rw [alB], by show (obTab 0 (iniT lo) alien).ver = _; rw [alB], hdis, hlt, Ext.refl _ _, fun id _ => ⟨rfl, fun b => Iff.rfl⟩, fun id b hne h => .inr ⟨id, hne, h⟩, by simp⟩
    simp only [St.begO]
    split
    · rename_i x hx
      have hlt : t < vs.size := by rw [hl]; exact (List.getElem?_eq_some_iff.1 hx).1
      have hvt := Array.getElem?_eq_getElem hlt
      have hget : (vs ++ Array.replicate (fn.ntmps - vs.size) undef).getD t undef = vs[t] := by
        simp [Array.getElem?_append, hlt]
      rw [hget]
      exact hv t x _ hx hvt
    · rename_i hx
      have hge : vs.size ≤ t := by rw [hl]; simpa using hx
      have : (vs ++ Array.replicate (fn.ntmps - vs.size) undef).getD t undef = undef := by
        simp only [Array.getD_eq_getD_getElem?, Array.getElem?_append]
        rw [if_neg (by omega), Array.getElem?_replicate]
        split <;> rfl
      rw [this]
      exact rfl
  have h' : ∃ t, Sub (.begO args lo) t ∧ wpC P c' t (EndS lo slots R) := by
    obtain ⟨t, h1, h2⟩ := h
    exact ⟨t, h1, (wpC_congr fun e s => by cases e <;> rfl).mp h2⟩
  obtain ⟨t, ht, h⟩ := h'
  refine calls_of_wp hf hb (wp_mono (digC_sound hd h (ht _ _ _ _ _ _ _ ⟨_, _, r⟩)) ?_)
  have fin : ∀ (a : Act) (w' : World) (s' : St), (∃ t, Sub s' t ∧ ∃ ra lo', R ra lo' ∧ kds lo' = kds lo ∧ t.resAts slots = some (ra.map raV) ∧ t.ob = obTab 1 (finT lo')) → Rel P fn.ntmps w own hdr [] s' a w' → a.defers = [] ∧ ∃ v, (results fn a.tmps).run P w' = .ok v w' ∧
      ∃ (rs : Array Value) (ra : List RA) (lo' : List (Nat × OK)) (own' : Nat → Nat → Prop) (hdr' : Nat → Value),
      Ending.returned v = .returned (if h : rs.size = 1 then rs[0] else .tuple rs) ∧ R ra lo' ∧ kds lo' = kds lo ∧ rs.size = ra.length ∧
      (∀ (t : Nat) (x : RA) (v : Value), ra[t]? = some x → rs[t]? = some v → RV1 P w' own' hdr' (obTab 1 (finT lo')) (raV x) v) ∧
      (∀ id, RO P w' own' hdr' (obTab 1 (finT lo')) id) ∧ (∀ id id' b, own' id b → own' id' b → id = id') ∧ (∀ id b, own' id b → b < w'.heap.size) ∧
      Ext w w' (fun b => ∃ id, id ≠ alien ∧ own id b) ∧ (∀ id, (obTab 1 (finT lo') id).ver = 0 → hdr' id = hdr id ∧ ∀ b, own' id b ↔ own id b) ∧
      (∀ id b, id ≠ alien → own' id b → w.heap.size ≤ b ∨ ∃ id', id' ≠ alien ∧ own id' b) := by
    rintro a w' s' ⟨u, hu, ra, lo', hR, hkd, hres, hob⟩ hrel
    obtain ⟨own', hdr', r'⟩ := hu _ _ _ _ _ _ _ hrel
    have hmain : ∃ us : List Value, (results fn a.tmps).run P w' = .ok (if h : us.toArray.size = 1 then us.toArray[0] else .tuple us.toArray) w' ∧ us.length = (ra.map raV).length ∧ ∀ (t : Nat) (v : AV) (x : Value), (ra.map raV)[t]? = some v → us[t]? = some x → RS P w' own' hdr' u.ob v x := by
      unfold results
      rw [Array.mapM_eq_mapM_toList, Sem.run_bind]
      generalize hg : (fun x : ResultVar => (match x with
        | .tmp t => pure (a.tmps.getD t undef)
        | .cell c t => do loadVar t (← asAddr (a.tmps.getD c undef)) : Sem Value)) = g
      obtain ⟨us, h1, h2, h3⟩ := mapM_res r' g (fun t => by rw [← hg]) (fun c t => by rw [← hg]) hr hres
      refine ⟨us, ?_, h2, h3⟩
      simp only [Sem.run_map, h1, Result.andThen_ok]
      rfl
    obtain ⟨us, hrun, hul, hus⟩ := hmain
    refine ⟨r'.defers, _, hrun, us.toArray, ra, lo', own', hdr', rfl, hR, hkd, by simpa using hul, fun t x v h1 h2 => ?_, ?_, r'.dis, r'.lt, r'.ext, ?_, r'.new⟩
    · have := hus t (raV x) v (by simp [h1]) (by simpa using h2)
      rw [hob] at this
      cases x <;> exact this
    · have := r'.objs
      rw [hob] at this
      exact this
    · have := r'.zero
      rw [hob] at this
      exact this
  rintro (_ | id | l | _ | ch | _) a w' hq
  · obtain ⟨s', ⟨_, h1⟩, h2⟩ := hq; exact fin a w' s' h1 h2
  · obtain ⟨s', ⟨h1, _⟩, _⟩ := hq; exact absurd rfl (h1 id)
  · exact hq.elim
  · obtain ⟨s', ⟨_, h1⟩, h2⟩ := hq; exact fin a w' s' h1 h2
  · exact hq.elim
  · exact hq.elim
section
variable {lo : List (Nat × OK)} {slots : List RSl} {R : List RA → List (Nat × OK) → Prop} {s : St}
end
section
variable {P : Program} {k : List It} {Q : Ex → St → Prop} {s : St} {r : T} {d : Option Nat} {q : Bool} {oi : Nat} {tags : List Nat}
theorem kAad {n sz : Nat} {x i : X} {j : IntKind} {m : Int} {id ver off ev : Nat} {cs : List AC} (hx : s.ev x = .c (.ptr id ver off)) (hi : s.ev i = .vv (.int j m)) (ho : s.ob id = ⟨ver, ev, .box cs⟩) (hn : 0 ≤ m ∧ m.toNat < n)
    (h : kont P (.t r tags :: k) Q .normal (s.put d (.c (.ptr id ver (off + m.toNat * sz))))) : kont P (.t (.op oi [] d none q (.aad n sz x i) r) tags :: k) Q .normal s :=
  kOp (fun _ => trivial) (by simp only [stepO, hx, hi, St.obj, ho, if_true]; exact ⟨hn, trivial, h⟩)
def isWd : AC → Bool
  | .d (.sc (.int .u32 _)) => true
  | _ => false
def ws (l : List Int) : List AC := l.map fun x => .d (.sc (.int .u32 x))
theorem ws_len (l : List Int) : (ws l).length = l.length := by simp [ws]
theorem ws_all (l : List Int) : (ws l).all isWd = true := by simp [ws, isWd]
theorem ws_of : ∀ {cs : List AC}, cs.all isWd = true → ∃ l : List Int, cs = ws l
  | [], _ => ⟨[], rfl⟩
  | c :: cs, h => by
    simp only [List.all_cons, Bool.and_eq_true] at h
    obtain ⟨l, rfl⟩ := ws_of h.2
    have hc := h.1
    unfold isWd at hc
    split at hc
    · rename_i x; exact ⟨x :: l, rfl⟩
    · cases hc
theorem ws_pick {l : List Int} {k : Nat} (h : k < l.length) : pickCells none ((ws l).drop k) = some (.vv (.int .u32 l[k])) := by
  unfold ws
  rw [← List.map_drop, List.drop_eq_getElem_cons h]
  rfl
theorem ws_patch {l : List Int} {k : Nat} {y : Int} (h : k < l.length) : patch (ws l) k [.d (.sc (.int .u32 y))] = ws (l.set k y) := by
  simp only [patch, ws, List.map_set, List.length_cons, List.length_nil]
  rw [List.set_eq_take_append_cons_drop, if_pos (by simpa using h)]
  simp
theorem kLoadW {x : X} {id ver ev off : Nat} {cs : List AC} (hx : s.ev x = .c (.ptr id ver off)) (ho : s.ob id = ⟨ver, ev, .box cs⟩) (hw : cs.all isWd = true) (hi : off < cs.length)
    (h : ∀ y : Int, kont P (.t r (if q then oi :: tags else tags) :: k) Q .normal ((s.heldIf q [id]).put d (.vv (.int .u32 y)))) : kont P (.t (.op oi [] d none q (.load none x) r) tags :: k) Q .normal s := by
  obtain ⟨l, rfl⟩ := ws_of hw
  rw [ws_len] at hi
  exact kLoadP hx ho (ws_pick hi) (h _)
theorem kStoreW {x v : X} {id ver ev off : Nat} {cs : List AC} {y : Int} (hx : s.ev x = .c (.ptr id ver off)) (hv : s.ev v = .vv (.int .u32 y)) (ho : s.ob id = ⟨ver, ev, .box cs⟩) (hh : s.hold.contains id = false) (hw : cs.all isWd = true) (hi : off < cs.length)
    (h : ∀ l : List Int, l.length = cs.length → kont P (.t r tags :: k) Q .normal ((s.setOb id ⟨ver, ev, .box (ws l)⟩).put d (.c .any))) : kont P (.t (.op oi [] d none q (.store none x v) r) tags :: k) Q .normal s := by
  obtain ⟨l, rfl⟩ := ws_of hw
  rw [ws_len] at hi h
  have e : decide (off + 1 ≤ l.length) = true := decide_eq_true (by omega)
  refine kStoreP hx hv ho (by rw [ws_len, hh]; show (_ && decide (off + 1 ≤ l.length)) = true; rw [e]; rfl) ?_
  show kont P (.t r tags :: k) Q .normal ((s.setOb id ⟨ver, ev, .box (patch (ws l) off [.d (.sc (.int .u32 y))])⟩).put d (.c .any))
  rw [ws_patch hi]
  exact h _ (by simp)
def wop (op : BinOp) (j : IntKind) (b : Int) : Prop :=
  match op with
  | .shl | .shr => 0 ≤ b
  | .add | .sub | .mul | .and | .or | .xor => j = .u32
  | _ => False
theorem kBinW {op : BinOp} {x y : X} {a b : Int} {j : IntKind} (hx : s.ev x = .vv (.int .u32 a)) (hy : s.ev y = .vv (.int j b)) (hw : wop op j b) (h : ∀ z : Int, kont P (.t r tags :: k) Q .normal (s.put d (.vv (.int .u32 z)))) :
    kont P (.t (.op oi [] d none q (.bin op x y) r) tags :: k) Q .normal s := by
  have key : ∃ z, evBin op (.int .u32 a) (.int j b) = some (.int .u32 z) := by
    unfold wop at hw
    split at hw
    · exact ⟨_, by simp only [evBin]; rw [if_neg (by omega)]⟩
    · exact ⟨_, by simp only [evBin]; rw [if_neg (by omega)]⟩
    all_goals first | exact hw.elim | (subst hw; exact ⟨_, by simp only [evBin, if_true]; rfl⟩)
  obtain ⟨z, hz⟩ := key
  exact kBin hx hy hz (h z)
theorem kShrW {x y : X} {a b : Int} {j0 j : IntKind} (hx : s.ev x = .vv (.int j0 a)) (hy : s.ev y = .vv (.int j b)) (hb : 0 ≤ b) (h : ∀ z : Int, kont P (.t r tags :: k) Q .normal (s.put d (.vv (.int j0 z)))) :
    kont P (.t (.op oi [] d none q (.bin .shr x y) r) tags :: k) Q .normal s :=
  kBin hx hy (by simp only [evBin]; rw [if_neg (by omega)]) (h _)
end
def Task.cellsO (t : Task) (v : Nat) : List AC := [.d (.sc (.int .i64 t.state)), .d (.sc (.int .i64 t.id)), .d (encBB t.fname), .d (.sc (.int .i64 t.ftype)), .d (encBB t.name), .d (encBB t.zone), .d (encI t.hints), .d (encI t.servers), .d (.sc (.int .i64 t.turn)), .d (.sc (.int .i64 t.sends)), .d (.sc (.int .i64 t.steps)), .d (.sc (.int .i64 t.code)), .arr 1 v]
def Task.lo (t : Task) (v : Nat) : List (Nat × OK) := [(0, .box (t.cellsO v)), (1, .arr false (encR t.answers))]
def Cache.lo (c : Cache) (v : Nat) : List (Nat × OK) := [(0, .box [.d (.sc (.int .i64 c.now)), .d (.sc (.int .i64 c.turn)), .arr 1 v]), (1, .arr true (encS c.slots))]
theorem cwL_ws {ob ob' : Nat → Ob} : ∀ l : List Int, cwL ob ob' (ws l) (ws l)
  | [] => trivial
  | _ :: l => ⟨.inl rfl, cwL_ws l⟩
theorem Sub.normW {s : St} {l : List (Nat × AV)} {lo : List (Nat × Ob)} (hc : chkV s (obTab 1 lo) l := by (repeat' first | exact trivial | exact cwL_ws _ | refine And.intro ?_ ?_ | refine Exists.intro _ (And.intro rfl ?_) | exact rfl | exact .inl rfl | exact .inr ⟨_, rfl, rfl⟩ | exact ⟨_, rfl⟩ | exact .inl (congrArg (fun z : Int => AC.d (.sc (.int .i64 z))) (by first | omega | (simp only; omega) | (simp; done) | (simp; omega))) | exact .inl (congrArg (fun z : Bool => AC.d (.sc (.bool z))) (by (simp_all); first | done | fail)) | (rw [← List.take_append_getElem (by assumption)]; rfl) | (rw [← take_set_rep _ _ _ (by assumption)]; rfl)); first | done | fail)
    (ho : chkW s (obTab 1 lo) lo := by (repeat' first | exact trivial | exact cwL_ws _ | refine And.intro ?_ ?_ | refine Exists.intro _ (And.intro rfl ?_) | exact rfl | exact .inl rfl | exact .inr ⟨_, rfl, rfl⟩ | exact ⟨_, rfl⟩ | exact .inl (congrArg (fun z : Int => AC.d (.sc (.int .i64 z))) (by first | omega | (simp only; omega) | (simp; done) | (simp; omega))) | exact .inl (congrArg (fun z : Bool => AC.d (.sc (.bool z))) (by (simp_all); first | done | fail)) | (rw [← List.take_append_getElem (by assumption)]; rfl) | (rw [← take_set_rep _ _ _ (by assumption)]; rfl)); first | done | fail) : Sub s ⟨tabSl l, obTab 1 lo, []⟩ := Sub.norm hc ho
end Hearth

/- Short names for a digest's parts and for rules. -/
namespace Hearth
def T.o (i d : Nat) (x : O) (r : T) : T := .op i [] (some d) none false x r
def X.i (n : Int) : X := .v (.int .i64 n)
def C.g (t : T) (c : C) : C := .seq (.reg false t) c
theorem pr {p : Prop} (h : p := by first | assumption | omega | solve_by_elim [List.getElem_mem] | (simp only [szOut] at *; omega)) : p := h
theorem prl {p : Prop} (h : p := by first | omega | (simp only [List.length_append, List.length_cons, List.length_nil]; omega)) : p := h
theorem leb {m n : Nat} (h : Nat.ble m n = true := by exact rfl) : m ≤ n := Nat.le_of_ble_eq_true h
theorem pry {p : Prop} (h : p := by first | assumption | omega | solve_by_elim [List.getElem_mem] | (simp only [szOut] at *; omega) | exact rfl | exact leb) : p := h
theorem prx {p : Prop} (h : p := by first | assumption | omega | solve_by_elim [List.getElem_mem] | (simp only [List.length_append, w2_len, w4_len]; omega) | (simp only [szOut] at *; omega) | exact rfl | exact leb | exact rrOk_small (by assumption) | exact zoneOk_small (by assumption) | exact SmallBB.ok (by assumption) | exact (SmallBB.ok (by assumption)).len | exact (SmallBB.ok (by assumption)).mem | exact SmallBB.bent (by assumption)) : p := h
theorem om {p : Prop} (h : p := by omega) : p := h
universe u in
theorem Y {α : Sort u} {a : α} : a = a := rfl
abbrev Ka := @kMovC
abbrev Kb := @kSeq
abbrev Kc := @kReg
abbrev Kd := @kDone
abbrev Ke := @kLoadP
abbrev Kf := @kFadP
abbrev Kg := @kGF
abbrev Ki := @kGT
abbrev Kj := @kBin
abbrev Kk := @kPickT
abbrev Kl := @kPickF
abbrev Km := @kCondP
abbrev Kn := @kSkip
abbrev Ko := @kStoreP
abbrev Kp := @kCallD
abbrev Kq := @kLenR
abbrev Kr := @kRet
abbrev Ks := @kRelF
abbrev Kt := @kBlock
abbrev Ku := @kCall1
abbrev Kv := @kBk
abbrev Kw := @kUn
abbrev Kx := @kRelK
abbrev Ky := @kLoadD
abbrev Kz := @kCallE
abbrev Er := @endRetA
section
open Go
variable {P : Program} {k : List It} {Q : Ex → St → Prop} {s : St}
theorem Kbc {t : T} {y : C} (h : kont P (.t t [] :: .c y :: k) Q .normal s) : kont P (.c (.seq (.reg false t) y) :: k) Q .normal s := kSeq (kReg h)
theorem Kdb {tags : List Nat} {x y : C} (h : kont P (.c x :: .c y :: k) Q .normal s) : kont P (.t .done tags :: .c (.seq x y) :: k) Q .normal s := kDone (kSeq h)
end
end Hearth

/- From a function's contract to a law's walk. -/
namespace Hearth
open Go Go.RowKit
inductive AS where
  | one (sh : Sh)
  | agg (l : List Sh)
def shDA (n : Nat) : AS → DA → Prop
  | .one sh, .one x => shOk n sh x
  | .agg l, .agg xs => xs.length = l.length ∧ ∀ (k : Nat) (sh : Sh) (x : DV), l[k]? = some sh → xs[k]? = some x → shOk n sh x
  | _, _ => False
def asOf (P : Program) (n : Nat) (t : TypeId) : Option AS :=
  match P.underlying t with
  | some (.struct _) => match cellsSh P n t with
    | some l => if l.length ≤ 64 then some (.agg l) else none
    | none => none
  | some (.array _ _) => none
  | _ => match cellsSh P n t with
    | some [sh] => some (.one sh)
    | _ => none
section
variable {H : Type} {enc : TypeId × Value → H} {P : Program} {w : World}
theorem cells_one {base : Nat} {t : TypeId} {v : Value} (h : Cell.okWide P w .any base t v) : v.cells.toList = [v] := by
  cases v <;> first | rfl | (exfalso; revert h; simp [Cell.okWide, Cell.ok]; try (split <;> simp_all))
theorem arg_da {n : Nat} {sp : AS} {t : TypeId} {v : Value} {d : DataW H} {ps : List MemPlace} {base : Nat} (ha : asOf P n t = some sp) (ho : Value.okWide P w .any base t v) (h : DataW.Trod enc P w 0 (fun _ => true) true t v d ps) :
    ∃ da, DAr w (All w) da v ∧ shDA n sp da := by
  obtain ⟨fuel, h⟩ := h
  unfold asOf at ha
  unfold Value.okWide at ho
  split at ha
  · rename_i fs ht
    simp only [ht] at ho
    obtain ⟨cs, rfl, hcs, _⟩ := ho
    split at ha
    · rename_i l hl
      split at ha
      · rename_i h64
        simp at ha; subst ha
        obtain ⟨g1, g2⟩ := trod_sh hl h
        have g1' : cs.size = l.length := by simpa [Value.cells] using g1
        have ch : ∀ k : Nat, ∃ y : DV, ∀ (u : Value) (sh : Sh), cs[k]? = some u → l[k]? = some sh → Pers w (All w) y u ∧ shOk n sh y := by
          intro k
          by_cases hk : k < l.length
          · obtain ⟨y, a1, a2⟩ := g2 k (cs[k]'(by omega)) l[k] (by simp [Value.cells, g1', hk]) (List.getElem?_eq_getElem hk)
            refine ⟨y, fun u sh b1 b2 => ?_⟩
            rw [Array.getElem?_eq_getElem (by omega)] at b1
            rw [List.getElem?_eq_getElem hk] at b2
            simp at b1 b2
            subst b1; subst b2
            exact ⟨a1, a2⟩
          · exact ⟨.sl 0 [], fun u sh _ b2 => by rw [List.getElem?_eq_none (by omega)] at b2; cases b2⟩
        have ⟨f, hf⟩ := Classical.axiomOfChoice ch
        refine ⟨.agg ((List.range l.length).map f), ⟨cs, rfl, ⟨by simp [g1'], by simpa using h64⟩, fun k x u hx hu => ?_⟩, by simp, fun k sh x hs hx => ?_⟩
        · simp only [List.getElem?_map, Option.map_eq_some_iff] at hx
          obtain ⟨k', hk, rfl⟩ := hx
          have hlt : k < l.length := by have := (List.getElem?_eq_some_iff.1 hk).1; simpa using this
          rw [List.getElem?_range hlt] at hk
          simp at hk; subst hk
          exact (hf k u _ hu (List.getElem?_eq_getElem hlt)).1
        · simp only [List.getElem?_map, Option.map_eq_some_iff] at hx
          obtain ⟨k', hk, rfl⟩ := hx
          have hlt : k < l.length := by have := (List.getElem?_eq_some_iff.1 hk).1; simpa using this
          rw [List.getElem?_range hlt] at hk
          simp at hk; subst hk
          exact (hf k _ sh (Array.getElem?_eq_getElem (by omega)) hs).2
      · simp at ha
    · simp at ha
  · simp at ha
  · rename_i hns hna
    split at ha
    · rename_i sh hl
      simp at ha; subst ha
      have ho' : Cell.okWide P w .any base t v := by
        revert ho
        split
        · rename_i fs h'; exact absurd h' (hns fs)
        · rename_i a b h'; exact absurd h' (hna a b)
        · exact id
      rw [cells_one ho'] at h
      obtain ⟨_, g2⟩ := trod_sh hl h
      obtain ⟨y, g3, g4⟩ := g2 0 v sh rfl rfl
      exact ⟨.one y, g3, g4⟩
    · simp at ha
theorem law_calls {f : Nat} {das : List DA} {vs : Array Value} (hd : DAs w (All w) das vs) (hok : FnOK P f (das.map DA.ga) (fun ra _ => ra = [.one (.d (.sc (.bool true)))])) :
    Calls P f vs w fun e w' => e = .returned (.bool true) ∧ Below w.heap.size w w' := by
  refine (hok.2 w (All w) (fun _ _ => False) vs (by simpa using hd.1) (fun t g v hg hv => ?_) (by simp) (by simp) (fun _ h => h) (by simp)).mono fun e w' h => ?_
  · simp only [List.getElem?_map, Option.map_eq_some_iff] at hg
    obtain ⟨da, hda, rfl⟩ := hg
    have := hd.2 t da v hda hv
    cases da with
    | one x => exact this
    | agg xs =>
      obtain ⟨us, h1, h2, h3⟩ := this
      refine ⟨us, h1, by simpa using h2.1, by simpa using h2.2, fun k p u hp hu => ?_⟩
      simp only [List.getElem?_map, Option.map_eq_some_iff] at hp
      obtain ⟨x, hx, rfl⟩ := hp
      exact h3 k x u hx hu
  · obtain ⟨v, ra, os, G, rfl, rfl, he, _, hr, _⟩ := h
    obtain ⟨us, h1, h2, h3⟩ := hr
    have hs : us.size = 1 := h2
    rw [dif_pos hs] at h1
    have hp : Pers w' _ (.sc (.bool true)) us[0] := h3 0 _ us[0] rfl (Array.getElem?_eq_getElem (by omega))
    have key : ∀ {S : Nat → Prop} {x : DV} {u : Value}, Pers w' S x u → x = .sc (.bool true) → u = .bool true := by
      intro S x u hp hx
      cases hp with
      | sc _ _ => cases hx; rfl
      | emp _ _ _ => cases hx
      | sl _ _ _ _ _ _ _ _ _ _ _ _ => cases hx
    exact ⟨by rw [h1, key hp rfl], he.os, he.tape, he.output, he.size, fun k hk => he.same k hk (by simp)⟩
end
/-! What shapes tell. -/
theorem shOk_int {n : Nat} {k : IntKind} {x : DV} (h : shOk n (.int k) x) : ∃ m, x = .sc (.int k m) ∧ (Lit.int k m).wf = true := by
  cases n with
  | zero => simp [shOk] at h
  | succ n => cases x with
    | sc v => cases v <;> simp [shOk] at h; obtain ⟨rfl, h⟩ := h; exact ⟨_, rfl, h⟩
    | sl _ _ => simp [shOk] at h
theorem shOk_u8 {n : Nat} {x : DV} (h : shOk n (.int .u8) x) : ∃ b : UInt8, x = .sc (.int .u8 b.toNat) := by
  obtain ⟨m, rfl, hw⟩ := shOk_int h
  simp [Lit.wf, IntKind.min, IntKind.max, IntKind.signed, IntKind.bits] at hw
  refine ⟨UInt8.ofNat m.toNat, ?_⟩
  have : ((UInt8.ofNat m.toNat).toNat : Int) = m := by
    rw [UInt8.toNat_ofNat']
    omega
  rw [this]
theorem shOk_rows {n : Nat} {l : List Sh} {x : DV} {α : Type} {f : α → List DV} {q : α → Prop} (h : shOk n (.sl l) x)
    (hr : ∀ (m : Nat) (row : List DV), row.length = l.length → (∀ (j : Nat) (sh : Sh) (y : DV), l[j]? = some sh → row[j]? = some y → shOk m sh y) → ∃ a, row = f a ∧ q a) :
    ∃ as : List α, x = .sl l.length (as.map f) ∧ (as.length : Int) ≤ 9223372036854775807 ∧ ∀ a ∈ as, q a := by
  cases n with
  | zero => simp [shOk] at h
  | succ n => cases x with
    | sc v => cases v <;> simp [shOk] at h
    | sl sz rows =>
      obtain ⟨rfl, _, h3, h4⟩ := h
      have : ∀ rows : List (List DV), (∀ row ∈ rows, ∃ a, row = f a ∧ q a) → ∃ as : List α, rows = as.map f ∧ ∀ a ∈ as, q a := by
        intro rows
        induction rows with
        | nil => exact fun _ => ⟨[], rfl, by simp⟩
        | cons r rs ih =>
          intro h
          obtain ⟨a, h1, h2⟩ := h r (by simp)
          obtain ⟨as, h3, h4⟩ := ih (fun r hr => h r (by simp [hr]))
          exact ⟨a :: as, by rw [h1, h3]; rfl, fun b hb => (List.mem_cons.1 hb).elim (fun e => e ▸ h2) (h4 b)⟩
      obtain ⟨as, rfl, h5⟩ := this rows (fun row hrow => hr n row (h4 row hrow).1 (h4 row hrow).2)
      refine ⟨as, rfl, ?_, h5⟩
      simp only [List.length_map, maxLen] at h3
      omega
theorem row_one {α : Type} {P : Sh → DV → Prop} {sh : Sh} {row : List DV} {f : α → DV} {q : α → Prop} (hl : row.length = 1) (h : ∀ (j : Nat) (s : Sh) (y : DV), [sh][j]? = some s → row[j]? = some y → P s y) (hf : ∀ y, P sh y → ∃ a, y = f a ∧ q a) : ∃ a, row = [f a] ∧ q a := by
  match row, hl with
  | [y], _ =>
    obtain ⟨a, rfl, ha⟩ := hf y (h 0 sh y rfl rfl)
    exact ⟨a, rfl, ha⟩
theorem shOk_bytes {n : Nat} {x : DV} (h : shOk n (.sl [.int .u8]) x) : ∃ b : List UInt8, x = encB b ∧ (b.length : Int) ≤ 9223372036854775807 := by
  obtain ⟨as, h1, h2, _⟩ := shOk_rows (α := UInt8) (f := fun b => [.sc (.int .u8 b.toNat)]) (q := fun _ => True) h (fun m row hl hc => row_one (P := shOk m) hl hc fun y hy => by obtain ⟨b, rfl⟩ := shOk_u8 hy; exact ⟨b, rfl, trivial⟩)
  exact ⟨as, h1, h2⟩
end Hearth

/- Arguments of laws as records. -/
namespace Hearth
open Go
abbrev shB : Sh := .sl [.int .u8]
abbrev i64 : Sh := .int .i64
end Hearth
