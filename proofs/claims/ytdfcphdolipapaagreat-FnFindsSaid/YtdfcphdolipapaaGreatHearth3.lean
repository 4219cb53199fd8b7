/- An abstract machine for Go programs, and its soundness: the framework of this proof; no condition. -/
import Derived.ChangeSlices
import Derived.Below
import Derived.Carry
import Derived.Maps.Own
import Derived.WalkKit
import Derived.ProofKit
import Derived.Laws.Externs
import Derived.Lib.Bytealg
import Derived.Lib.AppendZerosOnto
import Derived.Test.YtdfcphdolipapaaGreatHearth2
set_option linter.unusedVariables false
set_option linter.unusedSimpArgs false
/- The abstract machine: more rules for operations. -/
namespace Hearth
open Go
section
variable {P : Program} {k : List It} {Q : Ex → St → Prop} {s : St} {d : Option Nat} {q : Bool} {r : T} {oi : Nat} {tags : List Nat}
theorem kStoreE {n : Option Nat} {x v : X} {id ver ev i off : Nat} {y : DV} {dp dp2 : Bool} {u : AV} {ds : List DV} {ids : List Nat} (hx : s.ev x = .c (.ept id ver i off)) (hv : s.ev v = u) (ho : s.ob id = ⟨ver, ev, .arr dp y⟩) (hp : s.parts u.cells = some (ds, dp2, ids))
  (hh : (!s.hold.contains id && ids.all (fun j => !s.hold.contains j) && !ids.contains id && nodupB ids && decide (u.shape = n) && decide (0 < ds.length)) = true) (hver : ids = [] ∨ 0 < ver) (hoff : off + ds.length ≤ y.esz)
  (h : kont P (.t r tags :: k) Q .normal (((s.kill ids).setOb id ⟨ver, ev + 1, .arr (dp && dp2) (setRow y i off ds)⟩).put d (.c .any))) : kont P (.t (.op oi [] d none q (.store n x v) r) tags :: k) Q .normal s :=
 kOp (fun _ => trivial) (by
  simp only [Bool.and_eq_true, decide_eq_true_eq, Bool.not_eq_true'] at hh
  obtain ⟨⟨⟨⟨⟨h1, h2⟩, h3⟩, h4⟩, h5⟩, h6⟩ := hh
  simp only [stepO, storeA, hx, hv, St.obj, ho, if_true, hp]
  exact ⟨by simpa using h1, h5, by simpa using h3, nodupB_sound h4, fun j hj => by simpa using List.all_eq_true.1 h2 j hj, hoff, h6, hver, h⟩)
theorem kApp {e sz bytes : Nat} {x y : X} {cx cy : AC} {dp dp' : Bool} {xs ys : DV} {ids : List Nat} {id v ve : Nat} {vk : OK} (hx : s.ev x = .c cx) (hy : s.ev y = .c cy) (hb : s.base cx = some (dp, xs)) (hs : s.src cy = some (dp', ys, ids)) (hid : cx.ownId e = id) (hob : s.ob id = ⟨v, ve, vk⟩)
  (hsz : xs.esz = sz ∧ ys.esz = sz ∧ 0 < sz) (hh : (!s.hold.contains id && ids.all (fun j => !s.hold.contains j) && !ids.contains id && (match cy with | .arr j _ => !(j == id) | _ => true)) = true)
  (hlen : (xs.len + ys.len) * bytes ≤ 140737488355328 ∧ xs.len + ys.len ≤ 9223372036854775807)
  (h : kont P (.t r tags :: k) Q .normal (((s.kill ids).setOb id ⟨v + 1, 0, .arr (dp && dp') (xs.app ys)⟩).put d (.c (.arr id (v + 1))))) : kont P (.t (.op oi [] d none q (.app e sz bytes x y) r) tags :: k) Q .normal s :=
 kOp (fun _ => trivial) (by
  subst hid
  simp only [Bool.and_eq_true, Bool.not_eq_true'] at hh
  obtain ⟨⟨⟨h1, h2⟩, h3⟩, h4⟩ := hh
  have h3' : cx.ownId e ∉ ids := by simpa using h3
  have hvv : (s.ob (cx.ownId e)).ver = v := by rw [hob]
  have hkv : ((s.kill ids).ob (cx.ownId e)).ver = v := by simp [St.kill, h3', hvv]
  simp only [stepO, hx, hy]
  refine .inl ?_
  simp only [appA, hb, hs]
  refine ⟨hsz.1, hsz.2.1, hsz.2.2, by simpa using h1, fun j hj => by simpa using List.all_eq_true.1 h2 j hj, h3', hlen.1, hlen.2, ?_, ?_⟩
  ·cases cy <;> simp_all
  ·rw [St.newOb, hkv, hvv]; exact h)
theorem kLit {e sz n : Nat} {zs : List X} {ps : List (Nat × Nat × X)} {cs : List AC} {ds : List DV} {dp : Bool} {ids : List Nat} (hf : s.fill ((List.replicate n (zs.map X.ac)).flatten) ps = some cs) (hp : s.parts cs = some (ds, dp, ids))
  (hb : (Nat.beq cs.length (n * sz) && Nat.beq zs.length sz && Nat.ble (n * sz) 16777216 && Nat.ble n 9223372036854775807 && !s.hold.contains (rid e 0) && nodupB ids && ids.all (fun j => !s.hold.contains j) && !ids.contains (rid e 0)) = true) {vv ve : Nat} {vk : OK} (hob : s.ob (rid e 0) = ⟨vv, ve, vk⟩)
  (h : kont P (.t r tags :: k) Q .normal (((s.kill ids).setOb (rid e 0) ⟨vv + 1, 0, .arr dp (.sl sz (chunk sz n ds))⟩).put d (.c (.arr (rid e 0) (vv + 1))))) : kont P (.t (.op oi [] d none q (.lit e sz zs n ps) r) tags :: k) Q .normal s :=
 kOp (fun _ => trivial) (by
  simp only [Bool.and_eq_true, Bool.not_eq_true', Nat.beq_eq, Nat.ble_eq] at hb
  obtain ⟨⟨⟨⟨⟨⟨⟨h1, h2⟩, h3⟩, h4⟩, h5⟩, h6⟩, h7⟩, h8⟩ := hb
  have h8' : rid e 0 ∉ ids := by simpa using h8
  have hvv : (s.ob (rid e 0)).ver = vv := by rw [hob]
  have hkv : ((s.kill ids).ob (rid e 0)).ver = vv := by simp [St.kill, h8', hvv]
  simp only [stepO, litA, hf, hp]
  refine .inl ⟨h1, h2, h3, h4, by simpa using h5, nodupB_sound h6, fun j hj => by simpa using List.all_eq_true.1 h7 j hj, h8', ?_⟩
  rw [St.newOb, hkv, hvv]; exact h)
theorem newOb_ob (s : St) (id : Nat) (k : OK) : (s.newOb id k).ob id = ⟨(s.ob id).ver + 1, 0, k⟩ := upd_same _ _ _
theorem newOb_two (s : St) (id : Nat) (k k' : OK) : (s.newOb id k).newOb id k' = s.setOb id ⟨(s.ob id).ver + 1 + 1, 0, k'⟩ := by
 unfold St.newOb
 have e : (s.setOb id ⟨(s.ob id).ver + 1, 0, k⟩).ob id = ⟨(s.ob id).ver + 1, 0, k⟩ := upd_same _ _ _
 rw [e]
 unfold St.setOb
 refine congrArg (fun o => (⟨s.sl, o, s.hold⟩ : St)) (funext fun j => ?_)
 by_cases hj : j = id
 ·rw [hj, upd_same, upd_same]
 ·rw [upd_ne _ _ _ _ hj, upd_ne _ _ _ _ hj]
  exact upd_ne _ _ _ _ hj
theorem frzK_arr {K : AV → St → Prop} {s : St} {id ver ev sz : Nat} {dp : Bool} {xs : List (List DV)} (ho : s.ob id = ⟨ver, ev, .arr dp (.sl sz xs)⟩) (hh : id ∉ s.hold) (hK : K (.dv (.sl sz xs)) (s.newOb id .dead)) : frzK K (.c (.arr id ver)) s := by
 simp only [frzK, St.obj, ho, if_true]
 exact ⟨hh, hK⟩
theorem kLitD0 {e sz n : Nat} {zs : List X} {ps : List (Nat × Nat × X)} {cs : List AC} {ds : List DV} {dp : Bool} {ids : List Nat} (hf : s.fill ((List.replicate n (zs.map X.ac)).flatten) ps = some cs) (hp : s.parts cs = some (ds, dp, ids))
  (hb : (Nat.beq cs.length (n * sz) && Nat.beq zs.length sz && Nat.ble (n * sz) 16777216 && Nat.ble n 9223372036854775807 && !s.hold.contains (rid e 0) && nodupB ids && ids.all (fun j => !s.hold.contains j) && !ids.contains (rid e 0)) = true) {vv ve : Nat} {vk : OK} (hob : s.ob (rid e 0) = ⟨vv, ve, vk⟩)
  (h : kont P (.t r tags :: k) Q .normal (((s.kill ids).setOb (rid e 0) ⟨vv + 1 + 1, 0, .dead⟩).put d (.dv (.sl sz (chunk sz n ds))))) : kont P (.t (.op oi [] d none q (.lit e sz zs n ps) r) tags :: k) Q .normal s := by
 generalize hid : rid e 0 = id at *
 simp only [Bool.and_eq_true, Bool.not_eq_true', Nat.beq_eq, Nat.ble_eq] at hb
 obtain ⟨⟨⟨⟨⟨⟨⟨h1, h2⟩, h3⟩, h4⟩, h5⟩, h6⟩, h7⟩, h8⟩ := hb
 have h8' : id ∉ ids := by simpa using h8
 have h5' : id ∉ s.hold := by simpa using h5
 have h7' : ∀ j ∈ ids, j ∉ s.hold := fun j hj => by simpa using List.all_eq_true.1 h7 j hj
 have hvv : (s.ob id).ver = vv := by rw [hob]
 have hkv : ((s.kill ids).ob id).ver = vv := by simp [St.kill, h8', hvv]
 refine kOp (fun _ => trivial) (.inr ?_)
 simp only [litA, hf, hp, hid]
 refine ⟨h1, h2, h3, h4, h5', nodupB_sound h6, h7', h8', ?_⟩
 refine frzK_arr (ev := 0) (dp := dp) (sz := sz) (xs := chunk sz n ds) ?_ h5' ?_
 ·rw [newOb_ob, hkv, hvv]
 ·rw [newOb_two, hkv]
  exact h
theorem kB2s {x : X} {c : AC} {l : List UInt8} (hx : s.ev x = .c c) (hr : s.rd c = some (encB l)) (h : kont P (.t r tags :: k) Q .normal (s.put d (.vv (.string ⟨l.toArray⟩)))) : kont P (.t (.op oi [] d none false (.b2s x) r) tags :: k) Q .normal s :=
 kOp nofun (by simp only [stepO, hx, hr]; exact ⟨l, rfl, h⟩)
theorem kS2b {x : X} {b : ByteArray} (hx : s.ev x = .vv (.string b)) (hb : b.size ≤ 9223372036854775807) (h : kont P (.t r tags :: k) Q .normal (s.put d (.dv (encB b.toList)))) : kont P (.t (.op oi [] d none q (.s2b x) r) tags :: k) Q .normal s :=
 kOp (fun _ => trivial) (by simp only [stepO, hx]; exact ⟨hb, h⟩)
theorem kMm {mx : Bool} {x y : X} {t : IntKind} {m n : Int} (hx : s.ev x = .vv (.int t m)) (hy : s.ev y = .vv (.int t n)) (h : kont P (.t r tags :: k) Q .normal (s.put d (.vv (.int t (if mx then (if n > m then n else m) else (if n < m then n else m)))))) : kont P (.t (.op oi [] d none q (.mm mx x y) r) tags :: k) Q .normal s :=
 kOp (fun _ => trivial) (by simp only [stepO, hx, hy]; exact ⟨trivial, h⟩)
theorem kEqn {ne : Bool} {x : X} {c : AC} {y : DV} (hx : s.ev x = .c c) (hr : s.rd c = some y) (hsl : y.isSl = true) (h : ∀ b : Bool, (0 < y.len → b = false) → kont P (.t r tags :: k) Q .normal (s.put d (.b (if ne then !b else b)))) : kont P (.t (.op oi [] d none q (.eqn ne x) r) tags :: k) Q .normal s :=
 kOp (fun _ => trivial) (by
  simp only [stepO, hx]
  split
  ·rename_i sz he
   cases he
   simp only [St.rd, Option.some.injEq] at hr
   subst hr
   have := h true (by simp [DV.len])
   cases ne <;> exact this
  ·rename_i c' _ he
   cases he
   simp only [hr]
   exact ⟨hsl, h⟩
  ·rename_i h1 h2
   exact absurd rfl (h2 c))
theorem kNck {x : X} {c : AC} (hx : s.ev x = .c c) (hc : (match c with | .dpt _ | .ptr _ _ _ | .ept _ _ _ _ | .spt _ _ _ _ _ _ _ => s.live c | _ => false) = true) (h : kont P (.t r tags :: k) Q .normal (s.put d (.c c))) : kont P (.t (.op oi [] d none q (.nck x) r) tags :: k) Q .normal s :=
 kOp (fun _ => trivial) (by
  simp only [stepO, hx]
  refine ⟨?_, h⟩
  cases c <;> simp_all)
theorem kCutA {sz : Nat} {x : X} {lo hi : Option X} {y : DV} {a b : Nat} {id ver ev : Nat} {dp : Bool} (hx : s.ev x = .c (.arr id ver)) (ho : s.ob id = ⟨ver, ev, .arr dp y⟩) (hh : s.hold.contains id = false) (hv : 0 < ver) (hsl : y.isSl = true) (hsz : y.esz = sz)
  (hlo : lo.map s.ev = none ∧ a = 0 ∨ ∃ k, lo.map s.ev = some (.vv (.int k a))) (hhi : hi.map s.ev = none ∧ b = y.len ∨ ∃ k, hi.map s.ev = some (.vv (.int k b))) (hab : a ≤ b ∧ b ≤ y.len) (h : kont P (.t r tags :: k) Q .normal ((s.setOb id ⟨ver, ev + 1, .frz y⟩).put d (.dv (y.cut a b)))) :
  kont P (.t (.op oi [] d none q (.cut sz x lo hi) r) tags :: k) Q .normal s :=
 kOp (fun _ => trivial) (.inl (by simp only [cutA, hx, St.rd, St.obj, ho, if_true]; exact ⟨hsl, hsz, a, b, hlo, hhi, hab.1, hab.2, by simpa using hh, hv, h⟩))
theorem kClo {f : Nat} {first caps : List X} {fs : List DA} {vs : List (Nat × Nat)} (hf : (first.map s.ev).mapM daOf = some fs) (hc : (caps.map s.ev).mapM capOf = some vs) (h : kont P (.t r tags :: k) Q .normal (s.put d (.c (.fn f fs vs)))) :
  kont P (.t (.op oi [] d none q (.clo f first caps) r) tags :: k) Q .normal s :=
 kOp (fun _ => trivial) ⟨fs, vs, hf, hc, h⟩
theorem kCallv {e : Nat} {x : X} {args : List X} {p : Bool} {C : FC} {as : List DA} {R : List RA → Prop} (hx : s.ev x = .c (.fv p C)) (hC : C as R) (hm : matchGs P s (args.map s.ev) (as.map DA.ga))
  (hb : (p && stabGs s (args.map s.ev) (as.map DA.ga)) = true ∨ ∀ ra, R ra → ra.all RA.clean = true) (hl : Nat.ble as.length 64 = true) (hra : ∀ ra, R ra → ra.length ≤ 64) (hh : s.hold.all (fun q => !(decide (rid e 0 ≤ q) && decide (q < rid e 4096))) = true)
  (h : ∀ ra, R ra → kont P (.t r tags :: k) Q .normal ((s.after e ra [] ⟨fun _ => .sl 0 [], fun _ => []⟩).put d (resV s e ra))) : kont P (.t (.op oi [] d none q (.callv e x args) r) tags :: k) Q .normal s :=
 kOp (fun _ => trivial) (by
  simp only [stepO, hx]
  refine ⟨as, R, hC, hm, hb.imp (fun h => by simpa using h) id, Nat.le_of_ble_eq_true hl, hra, fun q h1 h2 h3 => ?_, h⟩
  have := List.all_eq_true.1 hh q h3
  simp only [Bool.not_eq_true', Bool.and_eq_false_iff, decide_eq_false_iff_not] at this
  rcases this with h | h <;> omega)
end
end Hearth

/- Data of Go's as data of the abstract machine. -/
namespace Hearth
open Go
theorem len_encB (b : List UInt8) : (encB b).len = b.length := by simp [encB, DV.len]
def u8 (k : Int) : UInt8 := UInt8.ofNat (k % 256).toNat
theorem u8_toNat (k : Int) : ((u8 k).toNat : Int) = IntKind.u8.wrap k := by
 have : (k % 256).toNat < 256 := by omega
 simp [u8, IntKind.wrap, IntKind.bits, IntKind.signed]
 omega
def encBB (l : List (List UInt8)) : DV := .sl 1 (l.map fun b => [encB b])
theorem len_encBB (b : List (List UInt8)) : (encBB b).len = b.length := by simp [encBB, DV.len]
theorem row_encBB (b : List (List UInt8)) (i : Nat) (h : i < b.length) : (encBB b).row i = [encB b[i]] := by
 unfold DV.row encBB DV.rows
 rw [List.getD_eq_getElem?_getD, List.getElem?_map, List.getElem?_eq_getElem h]
 rfl
theorem take_set_succ {α : Type} (l m : List α) (i : Nat) (v : α) (hi : i < m.length) (hl : l.length = i) : (l ++ m.drop i).set i v = (l ++ [v]) ++ m.drop (i + 1) := by
 rw [List.drop_eq_getElem_cons hi, List.set_append_right _ _ (by omega), hl, Nat.sub_self, List.set_cons_zero, List.append_assoc]
 rfl
end Hearth
namespace Hearth
open Go
def lst (l : List DV) : DV := .sl 1 (l.map fun x => [x])
theorem len_lst (l : List DV) : (lst l).len = l.length := by simp [lst, DV.len]
theorem row_lst (l : List DV) (i : Nat) (h : i < l.length) : (lst l).row i = [l[i]] := by
 unfold DV.row lst DV.rows
 rw [List.getD_eq_getElem?_getD, List.getElem?_map, List.getElem?_eq_getElem h]
 rfl
theorem encB_lst (l : List UInt8) : encB l = lst (l.map fun b => .sc (.int .u8 b.toNat)) := by simp [encB, lst]
theorem encBB_lst (l : List (List UInt8)) : encBB l = lst (l.map encB) := by simp [encBB, lst]
theorem noNest_encB (b : List UInt8) : noNest (encB b) = true := by
 simp [noNest, encB, DV.rows, DV.isSc]
theorem src_encB (s : St) (b : List UInt8) : s.src (.d (encB b)) = some (true, encB b, []) := by
 show some (noNest (encB b), encB b, []) = _
 rw [noNest_encB]
def fcPred (D : DV → Prop) (g : DV → Bool) : FC := fun as R => ∃ x, D x ∧ as = [DA.one x] ∧ R = fun ra => ra = [.one (.d (.sc (.bool (g x))))]
end Hearth

/- Arguments of a law, as data of the abstract machine. -/
namespace Hearth
open Go
inductive Sh where
 | int (k : IntKind)
 | bool
 | str
 | sl (l : List Sh)
def shOk : Nat → Sh → DV → Prop
 | _ + 1, .int k, .sc (.int k' m) => k' = k ∧ (Lit.int k m).wf = true
 | _ + 1, .bool, .sc (.bool _) => True
 | _ + 1, .str, .sc (.string b) => b.size ≤ maxLen
 | n + 1, .sl l, .sl sz rows => sz = l.length ∧ 0 < sz ∧ rows.length ≤ maxLen ∧ ∀ row ∈ rows, row.length = l.length ∧ ∀ (j : Nat) (sh : Sh) (y : DV), l[j]? = some sh → row[j]? = some y → shOk n sh y
 | _, _, _ => False
theorem shOk_mono : ∀ {n : Nat} {sh : Sh} {y : DV}, shOk n sh y → shOk (n + 1) sh y
 | 0, _, _, h => by simp [shOk] at h
 | n + 1, .int k, .sc (.int k' m), h => h
 | n + 1, .bool, .sc (.bool _), _ => trivial
 | n + 1, .str, .sc (.string b), h => h
 | n + 1, .sl l, .sl sz rows, ⟨h1, h2, h3, h4⟩ => ⟨h1, h2, h3, fun row hr => ⟨(h4 row hr).1, fun j sh y a b => shOk_mono ((h4 row hr).2 j sh y a b)⟩⟩
def structSh (P : Program) (go : TypeId → Option (List Sh)) : Nat → List Field → Option (List Sh)
 | _, [] => some []
 | off, f :: fs => if f.offset = off then match go f.type with
   | some l => if l.length = P.cellsOf f.type then (structSh P go (off + l.length) fs).map (l ++ ·) else none
   | none => none
  else none
def cellsSh (P : Program) : Nat → TypeId → Option (List Sh)
 | 0, _ => none
 | n + 1, t => match P.underlying t with
  | some (.int k) => some [.int k]
  | some .bool => some [.bool]
  | some .string => some [.str]
  | some (.slice e) => match cellsSh P n e with
   | some l => if l.length = P.cellsOf e ∧ 0 < l.length then some [.sl l] else none
   | none => none
  | some (.struct fs) => match structSh P (cellsSh P n) 0 fs.toList with
   | some l => if l.length = P.cellsOf t then some l else none
   | none => none
  | _ => none
section
variable {H : Type} {enc : TypeId × Value → H} {P : Program} {w : World} {base : Nat} {spare : Nat → Bool} {held : Bool}
theorem add_spot {a : Addr} {n : Nat} (h : a.spot = none) : a.add n = ⟨a.block, a.off + n, none⟩ := by
 unfold Addr.add
 split
 ·rename_i h0; subst h0; cases a; simp_all
 ·rfl
theorem structSh_get {go : TypeId → Option (List Sh)} : ∀ {fs : List Field} {off : Nat} {l : List Sh}, structSh P go off fs = some l → ∀ (j : Nat) (sh : Sh), l[j]? = some sh →
  ∃ (i : Nat) (f : Field) (lf : List Sh) (j' : Nat), fs[i]? = some f ∧ go f.type = some lf ∧ lf.length = P.cellsOf f.type ∧ lf[j']? = some sh ∧ off + j = f.offset + j'
 | [], off, l, h, j, sh, hj => by simp [structSh] at h; subst h; simp at hj
 | f :: fs, off, l, h, j, sh, hj => by
  simp only [structSh] at h
  split at h
  ·rename_i hoff
   split at h
   ·rename_i lf hlf
    split at h
    ·rename_i hlen
     simp only [Option.map_eq_some_iff] at h
     obtain ⟨l', hl', rfl⟩ := h
     by_cases hjl : j < lf.length
     ·rw [List.getElem?_append_left hjl] at hj
      exact ⟨0, f, lf, j, rfl, hlf, hlen, hj, by rw [hoff]⟩
     ·rw [List.getElem?_append_right (by omega)] at hj
      obtain ⟨i, f', lf', j', e1, e2, e3, e4, e5⟩ := structSh_get hl' _ sh hj
      exact ⟨i + 1, f', lf', j', by simpa using e1, e2, e3, e4, by omega⟩
    ·simp at h
   ·simp at h
  ·simp at h
theorem trod_sh : ∀ {n : Nat} {t : TypeId} {fuel : Nat} {cs : List Value} {x : DataW H × List MemPlace} {l : List Sh}, cellsSh P n t = some l → DataW.trod enc P w base spare held fuel t cs = some x →
  cs.length = l.length ∧ ∀ (j : Nat) (u : Value) (sh : Sh), cs[j]? = some u → l[j]? = some sh → ∃ y, Pers w (All w) y u ∧ shOk n sh y
 | 0, _, _, _, _, _, h, _ => by simp [cellsSh] at h
 | n + 1, t, fuel, cs, x, l, h, hx => by
  simp only [cellsSh] at h
  split at h
  ·rename_i k ht
   simp at h; subst h
   obtain ⟨m, rfl, _, hw⟩ := DataW.trod_int ht hx
   refine ⟨rfl, fun j u sh h1 h2 => ?_⟩
   cases j with
   | zero => simp at h1 h2; subst h1; subst h2; exact ⟨.sc (.int k m), .sc _ rfl, rfl, hw⟩
   | succ j => simp at h1
  ·rename_i ht
   simp at h; subst h
   obtain ⟨b, rfl, _⟩ := DataW.trod_bool ht hx
   refine ⟨rfl, fun j u sh h1 h2 => ?_⟩
   cases j with
   | zero => simp at h1 h2; subst h1; subst h2; exact ⟨.sc (.bool b), .sc _ rfl, trivial⟩
   | succ j => simp at h1
  ·rename_i ht
   simp at h; subst h
   obtain ⟨b, rfl, _, hb⟩ := DataW.trod_string ht hx
   refine ⟨rfl, fun j u sh h1 h2 => ?_⟩
   cases j with
   | zero => simp at h1 h2; subst h1; subst h2; exact ⟨.sc (.string b), .sc _ rfl, hb⟩
   | succ j => simp at h1
  ·rename_i e ht
   split at h
   ·rename_i le hle
    split at h
    ·rename_i hlen
     simp at h; subst h
     rcases DataW.trod_slice ht hx with ⟨rfl, _⟩ | ⟨a, len, cap, elems, rest, m, _, rfl, _, hb, hlc, hmax, hel, hget, _, _⟩
     ·refine ⟨rfl, fun j u sh h1 h2 => ?_⟩
      cases j with
      | zero => simp at h1 h2; subst h1; subst h2; exact ⟨.sl le.length [], .emp _ _ _, rfl, hlen.2, by simp, by simp⟩
      | succ j => simp at h1
     ·refine ⟨rfl, fun j u sh h1 h2 => ?_⟩
      cases j with
      | succ j => simp at h1
      | zero =>
       simp at h1 h2; subst h1; subst h2
       by_cases h0 : len = 0
       ·subst h0
        exact ⟨.sl le.length [], .emp _ _ _, rfl, hlen.2, by simp, by simp⟩
       have each : ∀ i, i < len → ∀ j, j < le.length → ∃ v y, w.cell? ((a.add (i * P.cellsOf e)).add j) = some v ∧ Pers w (All w) y v ∧ ∀ sh, le[j]? = some sh → shOk n sh y := by
        intro i hi j hj
        have h1 := hget i hi
        rw [List.getElem?_eq_getElem (by omega), Option.bind_eq_some_iff] at h1
        obtain ⟨cs', hcs, hy⟩ := h1
        obtain ⟨g1, g2⟩ := trod_sh hle hy
        have hjc : j < cs'.length := by omega
        have hc := (World.cells?_some hcs).2.2 j (by rw [← hlen.1]; exact hj)
        obtain ⟨y, g3, g4⟩ := g2 j _ _ (List.getElem?_eq_getElem hjc) (List.getElem?_eq_getElem hj)
        refine ⟨cs'[j], y, ?_, g3, fun sh hsh => ?_⟩
        ·rw [hc]; exact List.getElem?_eq_getElem hjc
        ·rw [List.getElem?_eq_getElem hj] at hsh; simp at hsh; subst hsh; exact g4
       have hspot : a.spot = none := by
        obtain ⟨v, _, hc, _⟩ := each 0 (by omega) 0 hlen.2
        simp [Addr.add] at hc
        unfold World.cell? at hc
        split at hc
        ·split at hc
         ·simp at hc
         ·rename_i hs; simpa using hs
        ·simp at hc
       have ch : ∀ p : Nat × Nat, ∃ q : Value × DV, p.1 < len → p.2 < le.length → w.cell? ((a.add (p.1 * P.cellsOf e)).add p.2) = some q.1 ∧ Pers w (All w) q.2 q.1 ∧ ∀ sh, le[p.2]? = some sh → shOk n sh q.2 := by
        intro p
        by_cases h1 : p.1 < len
        ·by_cases h2 : p.2 < le.length
         ·obtain ⟨v, y, h3⟩ := each p.1 h1 p.2 h2
          exact ⟨(v, y), fun _ _ => h3⟩
         ·exact ⟨(undef, .sl 0 []), fun _ h => absurd h h2⟩
        ·exact ⟨(undef, .sl 0 []), fun h => absurd h h1⟩
       have ⟨f, hf⟩ := Classical.axiomOfChoice ch
       let rows : List (List DV) := (List.range len).map fun i => (List.range le.length).map fun j => (f (i, j)).2
       have hrl : rows.length = len := by simp [rows]
       have hrow : ∀ (i : Nat) (cs : List DV), rows[i]? = some cs → i < len ∧ cs = (List.range le.length).map fun j => (f (i, j)).2 := by
        intro i cs hcs
        simp only [rows, List.getElem?_map, Option.map_eq_some_iff] at hcs
        obtain ⟨i', h1, rfl⟩ := hcs
        have hi : i < len := by
         have := (List.getElem?_eq_some_iff.1 h1).1
         simpa using this
        rw [List.getElem?_range hi] at h1
        simp at h1; subst h1
        exact ⟨hi, rfl⟩
       have hcell : ∀ (i j : Nat) (cs : List DV) (d : DV), rows[i]? = some cs → cs[j]? = some d → i < len ∧ j < le.length ∧ d = (f (i, j)).2 := by
        intro i j cs d hcs hd
        obtain ⟨hi, rfl⟩ := hrow i cs hcs
        simp only [List.getElem?_map, Option.map_eq_some_iff] at hd
        obtain ⟨j', h1, rfl⟩ := hd
        have hj : j < le.length := by
         have := (List.getElem?_eq_some_iff.1 h1).1
         simpa using this
        rw [List.getElem?_range hj] at h1
        simp at h1; subst h1
        exact ⟨hi, hj, rfl⟩
       have hadd : ∀ i j, (a.add (i * P.cellsOf e)).add j = ⟨a.block, a.off + i * le.length + j, none⟩ := by
        intro i j
        rw [add_spot hspot, add_spot rfl, hlen.1]
       refine ⟨.sl le.length rows, ?_, rfl, hlen.2, by rw [hrl]; omega, fun row hr => ?_⟩
       ·have hA : a = ⟨a.block, a.off, none⟩ := by cases a; simp_all
        have hall : All w a.block := by
         obtain ⟨hc, _⟩ := hf (0, 0) (by show 0 < len; omega) hlen.2
         rw [hadd] at hc
         exact World.block_lt_of_cell? w ⟨a.block, _, none⟩ hc
        rw [hA, ← hrl]
        refine .sl le.length rows a.block a.off cap (fun i j => (f (i, j)).1) (by omega) hmax hall (fun i cs hcs => ?_) (fun i j cs d hcs hd => ?_) (fun i j cs d hcs hd => ?_)
        ·obtain ⟨_, rfl⟩ := hrow i cs hcs; simp
        ·obtain ⟨hi, hj, rfl⟩ := hcell i j cs d hcs hd
         have := (hf (i, j) hi hj).1
         rw [hadd] at this
         exact this
        ·obtain ⟨hi, hj, rfl⟩ := hcell i j cs d hcs hd
         exact (hf (i, j) hi hj).2.1
       ·obtain ⟨i, hi⟩ := List.getElem?_of_mem hr
        obtain ⟨hlt, rfl⟩ := hrow i row hi
        refine ⟨by simp, fun j sh y h1 h2 => ?_⟩
        obtain ⟨_, hj, rfl⟩ := hcell i j _ y hi h2
        exact (hf (i, j) hlt hj).2.2 sh h1
    ·simp at h
   ·simp at h
  ·rename_i fs ht
   split at h
   ·rename_i l' hl'
    split at h
    ·rename_i hlen
     simp at h; subst h
     obtain ⟨xs, m, _, _, hcl, _, hget⟩ := DataW.trod_struct ht hx
     refine ⟨by rw [hcl, hlen], fun j u sh h1 h2 => ?_⟩
     obtain ⟨i, f, lf, j', e1, e2, e3, e4, e5⟩ := structSh_get hl' j sh h2
     have hf := hget i f (by simpa using e1)
     have hxs : i < xs.length := by
      cases hxi : xs[i]? with
      | none =>
       have := (List.getElem?_eq_some_iff.1 e1).1
       rw [List.getElem?_eq_none_iff] at hxi
       have h3 : xs.length = fs.size := by assumption
       simp at this
       omega
      | some _ => exact (List.getElem?_eq_some_iff.1 hxi).1
     rw [List.getElem?_eq_getElem hxs] at hf
     obtain ⟨g1, g2⟩ := trod_sh e2 hf
     obtain ⟨y, g3, g4⟩ := g2 j' u sh (by
      rw [List.getElem?_take]
      have := (List.getElem?_eq_some_iff.1 e4).1
      rw [if_pos (by omega), List.getElem?_drop]
      rw [show f.offset + j' = j by omega]; exact h1) e4
     refine ⟨y, g3, ?_⟩
     cases n with
     | zero => simp [cellsSh] at e2
     | succ n => exact shOk_mono g4
    ·simp at h
   ·simp at h
  ·simp at h
end
end Hearth

/- The abstract machine: states that say less (2): objects. -/
namespace Hearth
open Go
def VB (f : Nat → Ob) (V : Nat) : Prop := ∀ id, (f id).ver ≤ V
theorem VB.mono {f : Nat → Ob} {V V' : Nat} (h : VB f V) (h' : V ≤ V') : VB f V' := fun id => Nat.le_trans (h id) h'
theorem VB.upd {f : Nat → Ob} {V i : Nat} {o : Ob} (h : VB f V) (ho : o.ver ≤ V) : VB (Hearth.upd f i o) V := by
 intro id
 unfold Hearth.upd
 split
 ·exact ho
 ·exact h id
theorem VB.set {s : St} {V i : Nat} {o : Ob} (h : VB s.ob V) (ho : o.ver ≤ V) : VB (s.setOb i o).ob V := VB.upd h ho
theorem VB.kill {s : St} {V : Nat} {ids : List Nat} (h : VB s.ob V) : VB (s.kill ids).ob (V + 1) := by
 intro id
 show (if id ∈ ids then _ else _ : Ob).ver ≤ _
 split
 ·exact Nat.succ_le_succ (h id)
 ·exact Nat.le_succ_of_le (h id)
theorem VB.after {s : St} {V d : Nat} {ra : List RA} {bs : List (Nat × Nat × Bool)} {os : Outs} (h : VB s.ob V) : VB (s.after d ra bs os).ob (V + 1) := by
 intro id
 unfold St.after
 split
 ·exact Nat.le_succ_of_le (h id)
 ·have := h id
  simp only
  split
  ·simp only; omega
  ·split
   ·simp only; omega
   ·split <;> (simp only; omega)
   ·omega
theorem VB.tab {V : Nat} : ∀ {l : List (Nat × Ob)}, (∀ e ∈ l, e.2.ver ≤ V) → VB (obTab V l) V
 | [], _, id => by
  simp only [obTab]
  split
  ·exact Nat.zero_le _
  ·exact Nat.le_refl _
 | (i, o) :: l, h, id => by
  simp only [obTab]
  split
  ·exact h (i, o) (List.mem_cons_self ..)
  ·exact VB.tab (fun e he => h e (List.mem_cons_of_mem _ he)) id
theorem VB.init (gas : List GA) : VB (St.init gas).ob 0 := fun _ => Nat.le_refl _
theorem Sub.nilBox {s : St} {id id2 j sz ver ev v2 e2 : Nat} {k2 : OK} {cs : List AC} (hb : s.ob id = ⟨ver, ev, .box cs⟩) (h2 : s.ob id2 = ⟨v2, e2, k2⟩) (hj : cs[j]? = some (.nil sz)) (hne : id2 ≠ id) (hal : id2 ≠ alien) :
  Sub s ⟨s.sl, upd (upd s.ob id2 ⟨v2 + 1, 0, .arr true (.sl sz [])⟩) id ⟨ver, ev, .box (cs.set j (.arr id2 (v2 + 1)))⟩, []⟩ := by
 rintro P N w0 own0 hdr0 a w ⟨own, hdr, r⟩
 have h := (r.hold []).make (id := id2) (ids := []) (k := .arr true (.sl sz [])) (F := fun _ => False) (v := .slice none 0 0) (w' := w) ⟨hal, by simp⟩ (by simp) (by simp) (by simp) (Ext.refl _ _) (fun _ h => h.elim) (fun rc => by
  unfold RO
  rw [ob_new (by simp)]
  exact ⟨rfl, .inl ⟨rfl, by simp [hdrTo]⟩⟩)
 rw [St.kill_nil] at h
 obtain ⟨r1, rc1⟩ := h
 have hv2 : (s.ob id2).ver = v2 := by rw [h2]
 simp only [St.newOb, St.setOb, hv2] at r1 rc1
 generalize ownTo own id2 [] (fun _ => False) = own1 at *
 have hh : hdrTo hdr id2 [] (.slice none 0 0) id2 = .slice none 0 0 := by simp [hdrTo]
 generalize hdrTo hdr id2 [] (.slice none 0 0) = hdr1 at *
 have hob : (upd s.ob id2 ⟨v2 + 1, 0, .arr true (.sl sz [])⟩) id = ⟨ver, ev, .box cs⟩ := by rw [upd_ne _ _ _ _ (Ne.symm hne)]; exact hb
 have hob2 : (upd s.ob id2 ⟨v2 + 1, 0, OK.arr true (.sl sz [])⟩) id2 = ⟨v2 + 1, 0, .arr true (.sl sz [])⟩ := upd_same _ _ _
 generalize (upd s.ob id2 ⟨v2 + 1, 0, OK.arr true (.sl sz [])⟩) = ob1 at *
 -- the variable's cells are named anew
 have rc2 : ∀ c u, RC P w own1 hdr1 ob1 c u → RC P w own1 hdr1 (upd ob1 id ⟨ver, ev, .box (cs.set j (.arr id2 (v2 + 1)))⟩) c u := by
  have key : ∀ i, ((upd ob1 id ⟨ver, ev, .box (cs.set j (.arr id2 (v2 + 1)))⟩) i).ver = (ob1 i).ver ∧ ((upd ob1 id ⟨ver, ev, .box (cs.set j (.arr id2 (v2 + 1)))⟩) i).ev = (ob1 i).ev ∧ ((upd ob1 id ⟨ver, ev, .box (cs.set j (.arr id2 (v2 + 1)))⟩) i).k.dv = (ob1 i).k.dv := by
   intro i
   unfold upd
   split
   ·rename_i e; subst e; rw [hob]; exact ⟨rfl, rfl, rfl⟩
   ·exact ⟨rfl, rfl, rfl⟩
  intro c u hc
  cases c <;> first
   | exact hc
   | (simp only [RC, (key _).1, (key _).2.1, (key _).2.2] at hc ⊢; exact hc)
 refine ⟨own1, hdr1, r1.n, r1.defers, fun t => ?_, fun i => ?_, ?_, ?_, r1.dis, r1.lt, r1.ext, fun i hi => r1.zero i ?_, r1.new, by simp⟩
 ·have := r1.tmps t
  have hs : ∀ {x : AV} {u : Value}, RS P w own1 hdr1 ob1 x u → RS P w own1 hdr1 (upd ob1 id ⟨ver, ev, .box (cs.set j (.arr id2 (v2 + 1)))⟩) x u := by
   intro x u hx
   cases x with
   | c c => exact rc2 c u hx
   | g xs => obtain ⟨vs, e1, e2, e3⟩ := hx; exact ⟨vs, e1, e2, fun k x u a b => rc2 x u (e3 k x u a b)⟩
   | t xs =>
    obtain ⟨vs, e1, e2, e3⟩ := hx
    refine ⟨vs, e1, e2, fun k x u a b => ?_⟩
    have := e3 k x u a b
    cases x with
    | c c => exact rc2 c u this
    | g xs => obtain ⟨vs, f1, f2, f3⟩ := this; exact ⟨vs, f1, f2, fun k x u a b => rc2 x u (f3 k x u a b)⟩
    | t xs => exact this
  exact hs this
 ·have ho := r1.objs i
  by_cases hi : i = id
  ·subst hi
   obtain ⟨b, vs, t, g1, g2, g3, g4, g5⟩ := r1.boxAt (id := i) (cs := cs) (by show (ob1 i).k = _; rw [hob])
   unfold RO
   simp only [upd_same]
   refine ⟨b, vs, t, g1, g2, g3, by simpa using g4, fun k c u h3 h4 => ?_⟩
   rw [List.getElem?_set] at h3
   split at h3
   ·rename_i e
    subst e
    split at h3
    ·simp at h3; subst h3
     refine rc2 _ _ ?_
     have := g5 j _ u hj h4
     rw [show u = .slice none 0 0 from this]
     show _ ≤ (ob1 id2).ver ∧ (_ = (ob1 id2).ver → _)
     rw [hob2]
     exact ⟨Nat.le_refl _, fun _ => hh.symm⟩
    ·simp at h3
   ·exact rc2 _ _ (g5 k c u h3 h4)
  ·unfold RO at ho ⊢
   simp only [upd_ne _ _ _ _ hi]
   split at ho
   ·rename_i hk; simp only [show (ob1 i).k = _ from hk]; exact ho
   ·rename_i hk; simp only [show (ob1 i).k = _ from hk]; exact ho
   ·rename_i cs' hk
    simp only [show (ob1 i).k = _ from hk]
    obtain ⟨b, vs, t, g1, g2, g3, g4, g5⟩ := ho
    exact ⟨b, vs, t, g1, g2, g3, g4, fun k c u a b => rc2 c u (g5 k c u a b)⟩
   ·rename_i hk; simp only [show (ob1 i).k = _ from hk]; exact ho
   ·rename_i hk; simp only [show (ob1 i).k = _ from hk]; exact ho
   ·rename_i hk; simp only [show (ob1 i).k = _ from hk]; exact ho
 ·have hne' : alien ≠ id := fun e => by
   have := r1.al
   rw [e] at this
   have h3 : (ob1 id).k = .ext := this
   rw [hob] at h3; cases h3
  show (upd ob1 id _ alien).k = .ext
  rw [upd_ne _ _ _ _ hne']; exact r1.al
 ·have hne' : alien ≠ id := fun e => by
   have := r1.al
   rw [e] at this
   have h3 : (ob1 id).k = .ext := this
   rw [hob] at h3; cases h3
  show (upd ob1 id _ alien).ver = 0
  rw [upd_ne _ _ _ _ hne']; exact r1.alv
 ·have : (upd ob1 id ⟨ver, ev, .box (cs.set j (.arr id2 (v2 + 1)))⟩ i).ver = 0 := hi
  unfold upd at this
  split at this
  ·rename_i e; rw [e]; show (ob1 id).ver = 0; rw [hob]; exact this
  ·exact this
end Hearth

/- The abstract machine: a state named anew (versions as at a loop's first round). -/
namespace Hearth
open Go
def kept (ob : Nat → Ob) (id : Nat) : Bool :=
 match (ob id).k with
 | .dead => false
 | _ => true
section
variable (ob ob' : Nat → Ob)
def cw (c : AC) : AC → Prop
 | .any => True
 | .un => c = .un
 | .d x => c = .d x ∨ ∃ sz, c = .nil sz ∧ x = .sl sz []
 | .nil sz => c = .nil sz
 | .arr id ver => c = .arr id (ob id).ver ∧ (ob' id).ver = ver ∧ kept ob' id = true
 | .ptr id ver off => c = .ptr id (ob id).ver off ∧ (ob' id).ver = ver ∧ kept ob' id = true
 | .ept id ver i off => c = .ept id (ob id).ver i off ∧ (ob' id).ver = ver ∧ kept ob' id = true ∧ (ob' id).k.dv.esz = (ob id).k.dv.esz
 | .win id ver lo hi => c = .win id (ob id).ver lo hi ∧ (ob' id).ver = ver ∧ kept ob' id = true ∧ (ob' id).k.dv.esz = (ob id).k.dv.esz
 | .dpt ds => c = .dpt ds
 | .cpt ds => c = .cpt ds
 | .sub _ _ _ _ _ => False
 | .spt _ _ _ _ _ _ _ => False
 | .fn f first caps => c = .fn f first (caps.map fun e => (e.1, (ob e.1).ver)) ∧ (caps.all fun e => (Nat.beq (ob' e.1).ver e.2 && kept ob' e.1)) = true
 | .fv p C => c = .fv p C
 | .fsl id ver n => c = .fsl id (ob id).ver n ∧ (ob' id).ver = ver ∧ kept ob' id = true
def cwL : List AC → List AC → Prop
 | [], [] => True
 | c :: cs, d :: ds => cw ob ob' c d ∧ cwL cs ds
 | _, _ => False
def cwV (v : AV) : AV → Prop
 | .c d => ∃ c, v = .c c ∧ cw ob ob' c d
 | .g ds => ∃ cs, v = .g cs ∧ cwL ob ob' cs ds
 | .t _ => False
theorem arrW_spec : ∀ {dp : Bool} {k : OK} {x : DV}, arrW dp k x → ∃ dp0, k = .arr dp0 x ∧ (dp = true → dp0 = true)
 | true, _, _, h => ⟨true, h, fun h => h⟩
 | false, _, _, ⟨dp, h⟩ => ⟨dp, h, nofun⟩
def okW (o o' : Ob) : Prop :=
 (!(Nat.beq o'.ver 0) || Nat.beq o.ver 0) = true ∧
 match o'.k with
 | .dead => False
 | .ext => False
 | .box cs => ∃ cs0, o.k = .box cs0 ∧ cwL ob ob' cs0 cs
 | .arr dp x => arrW dp o.k x
 | .frz x => o.k = .frz x
 | .flat x => o.k = .flat x
end
def chkV (s : St) (ob' : Nat → Ob) : List (Nat × AV) → Prop
 | [] => True
 | (i, v) :: l => cwV s.ob ob' (s.sl i) v ∧ chkV s ob' l
def chkW (s : St) (ob' : Nat → Ob) : List (Nat × Ob) → Prop
 | [] => True
 | (i, o) :: l => (Nat.beq i alien = false ∧ okW s.ob ob' (s.ob i) o) ∧ chkW s ob' l
theorem cwL_get {ob ob' : Nat → Ob} : ∀ {cs ds : List AC}, cwL ob ob' cs ds → cs.length = ds.length ∧ ∀ (k : Nat) (d : AC), ds[k]? = some d → ∃ c, cs[k]? = some c ∧ cw ob ob' c d
 | [], [], _ => by simp
 | c :: cs, d :: ds, h => by
  obtain ⟨h1, h2⟩ := cwL_get h.2
  refine ⟨by simp [h1], fun k e hk => ?_⟩
  cases k with
  | zero => simp at hk; subst hk; exact ⟨c, rfl, h.1⟩
  | succ k => simp at hk; simpa using h2 k e hk
 | [], _ :: _, h => h.elim
 | _ :: _, [], h => h.elim
section
variable {P : Program} {w : World} {own : Nat → Nat → Prop} {hdr : Nat → Value} {ob ob' : Nat → Ob}
def ownK (own : Nat → Nat → Prop) (ob' : Nat → Ob) : Nat → Nat → Prop := fun id b => kept ob' id = true ∧ own id b
def hdrK (hdr : Nat → Value) (ob' : Nat → Ob) : Nat → Value := fun id => if kept ob' id = true then hdr id else undef
theorem Free.keep {b : Nat} (h : Free w own b) : Free w (ownK own ob') b := ⟨h.1, fun id ho => h.2 id ho.2⟩
theorem FreeF.keep {b : Nat} (h : FreeF w own b) : FreeF w (ownK own ob') b := ⟨h.1, fun id ho => h.2 id ho.2⟩
theorem DAr.keep {a : DA} {v : Value} (h : DAr w (Free w own) a v) : DAr w (Free w (ownK own ob')) a v := by
 cases a with
 | one x => exact Pers.mono' (fun _ hb => hb.keep) h
 | agg xs =>
  obtain ⟨vs, h1, h2, h3⟩ := h
  exact ⟨vs, h1, h2, fun k x u a b => Pers.mono' (fun _ hb => hb.keep) (h3 k x u a b)⟩
theorem RC.keep {c d : AC} {u : Value} (hw : cw ob ob' c d) (h : RC P w own hdr ob c u) : RC P w (ownK own ob') (hdrK hdr ob') ob' d u := by
 cases d with
 | any => trivial
 | un => rw [show c = .un from hw] at h; exact h
 | d x =>
  rcases hw with rfl | ⟨sz, rfl, rfl⟩
  ·exact Pers.mono' (fun _ hb => hb.keep) h
  ·rw [show u = .slice none 0 0 from h]
   exact .emp _ _ _
 | nil sz => rw [show c = .nil sz from hw] at h; exact h
 | arr id ver =>
  obtain ⟨rfl, rfl, hk⟩ := hw
  refine ⟨Nat.le_refl _, fun _ => ?_⟩
  rw [hdrK, if_pos hk]
  exact h.2 rfl
 | ptr id ver off =>
  obtain ⟨rfl, rfl, hk⟩ := hw
  refine ⟨Nat.le_refl _, fun _ => ?_⟩
  rw [hdrK, if_pos hk]
  exact h.2 rfl
 | ept id ver i off =>
  obtain ⟨rfl, rfl, hk, he⟩ := hw
  refine ⟨Nat.le_refl _, fun _ => ?_⟩
  rw [hdrK, if_pos hk, he]
  exact h.2 rfl
 | win id ver lo hi =>
  obtain ⟨rfl, rfl, hk, he⟩ := hw
  refine ⟨Nat.le_refl _, fun _ => ?_⟩
  rw [hdrK, if_pos hk, he]
  exact h.2 rfl
 | dpt ds =>
  rw [show c = .dpt ds from hw] at h
  obtain ⟨b, off, h1, h2, h3⟩ := h
  refine ⟨b, off, h1, h2.keep, fun j d hd => ?_⟩
  obtain ⟨u, h4, h5⟩ := h3 j d hd
  exact ⟨u, h4, Pers.mono' (fun _ hb => hb.keep) h5⟩
 | cpt ds =>
  rw [show c = .cpt ds from hw] at h
  obtain ⟨b, off, h1, h2, h3⟩ := h
  refine ⟨b, off, h1, h2.keep, fun j d hd => ?_⟩
  obtain ⟨u, h4, h5⟩ := h3 j d hd
  refine ⟨u, h4, ?_⟩
  cases d with
  | d x => exact Pers.mono' (fun _ hb => hb.keep) h5
  | fv p C =>
   refine FVal.mono (fun b hb => ⟨rfl, ?_⟩) (Nat.le_refl _) h5
   split at hb
   ·rename_i e; rw [if_pos e]; exact hb.elim
   ·rename_i e; rw [if_neg e]; exact hb.keep
 | sub _ _ _ _ _ => exact hw.elim
 | spt _ _ _ _ _ _ _ => exact hw.elim
 | fsl id ver n =>
  obtain ⟨rfl, rfl, hk⟩ := hw
  refine ⟨Nat.le_refl _, fun _ => ?_⟩
  rw [hdrK, if_pos hk]
  exact h.2 rfl
 | fn f first caps =>
  obtain ⟨rfl, hc⟩ := hw
  obtain ⟨fs, vs, h1, h2, h3, h4⟩ := h
  refine ⟨fs, vs, h1, ⟨h2.1, fun t a v x y => (h2.2 t a v x y).keep⟩, by simpa using h3, fun k id ver u hk hu => ?_⟩
  have := List.all_eq_true.1 hc _ (List.mem_of_getElem? hk)
  simp only [Bool.and_eq_true, Nat.beq_eq] at this
  refine ⟨Nat.le_of_eq this.1.symm, fun _ => ?_⟩
  rw [hdrK, if_pos this.2]
  exact (h4 k id (ob id).ver u (by simp [hk]) hu).2 rfl
 | fv p C =>
  rw [show c = .fv p C from hw] at h
  refine FVal.mono (fun b hb => ⟨rfl, ?_⟩) (Nat.le_refl _) h
  split at hb
  ·rename_i e; rw [if_pos e]; exact hb.elim
  ·rename_i e; rw [if_neg e]; exact hb.keep
theorem RS.keep {v d : AV} {u : Value} (hw : cwV ob ob' v d) (h : RS P w own hdr ob v u) : RS P w (ownK own ob') (hdrK hdr ob') ob' d u := by
 cases d with
 | c d => obtain ⟨c, rfl, hw⟩ := hw; exact RC.keep hw h
 | g ds =>
  obtain ⟨cs, rfl, hw⟩ := hw
  obtain ⟨vs, h1, h2, h3⟩ := h
  have hl := cwL_get hw
  refine ⟨vs, h1, h2.trans hl.1, fun k d u hk hu => ?_⟩
  obtain ⟨c, hc, hcd⟩ := hl.2 k d hk
  exact RC.keep hcd (h3 k c u hc hu)
 | t _ => exact hw.elim
end
theorem tabSl_keep {s : St} {ob' : Nat → Ob} : ∀ {l : List (Nat × AV)}, chkV s ob' l → ∀ j, tabSl l j = .c .any ∨ cwV s.ob ob' (s.sl j) (tabSl l j)
 | [], _, j => .inl rfl
 | (i, v) :: l, h, j => by
  simp only [tabSl]
  split
  ·rename_i e; rw [e]; exact .inr h.1
  ·exact tabSl_keep h.2 j
theorem obTab_keep {s : St} {ob' : Nat → Ob} {V : Nat} {id : Nat} : ∀ {lo : List (Nat × Ob)}, chkW s ob' lo →
  (id = alien ∧ obTab V lo id = ⟨0, 0, .ext⟩) ∨ (id ≠ alien ∧ obTab V lo id = ⟨V, 0, .dead⟩) ∨ (id ≠ alien ∧ okW s.ob ob' (s.ob id) (obTab V lo id))
 | [], _ => by
  simp only [obTab]
  split
  ·rename_i h; exact .inl ⟨h, rfl⟩
  ·rename_i h; exact .inr (.inl ⟨h, rfl⟩)
 | (i, o) :: l, h => by
  simp only [obTab]
  split
  ·rename_i e; subst e; exact .inr (.inr ⟨Nat.ne_of_beq_eq_false h.1.1, h.1.2⟩)
  ·exact obTab_keep h.2
theorem Sub.norm {s : St} {l : List (Nat × AV)} {lo : List (Nat × Ob)} (hc : chkV s (obTab 1 lo) l) (ho : chkW s (obTab 1 lo) lo) : Sub s ⟨tabSl l, obTab 1 lo, []⟩ := by
 rintro P N w0 own0 hdr0 a w ⟨own, hdr, r⟩
 refine ⟨ownK own (obTab 1 lo), hdrK hdr (obTab 1 lo), r.n, r.defers, fun j => ?_, fun id => ?_, ?_, ?_, fun i j b hi hj => r.dis i j b hi.2 hj.2, fun i b hb => r.lt i b hb.2, r.ext, fun id hz => ?_, fun i b hi hb => r.new i b hi hb.2, by simp⟩
 ·rcases tabSl_keep hc j with h | h
  ·simp only [h]; trivial
  ·exact RS.keep h (r.tmps j)
 ·have ht := obTab_keep (V := 1) (id := id) ho
  have hk : ∀ {k : OK}, (obTab 1 lo id).k = k → kept (obTab 1 lo) id = (match k with | .dead => false | _ => true) := fun {k} e => by unfold kept; rw [e]
  rcases ht with ⟨rfl, h⟩ | ⟨_, h⟩ | ⟨hne, h1, h2⟩
  ·have := r.objs alien
   have hal := r.al
   unfold RO at this ⊢
   simp only [h, hal] at this ⊢
   have hkk : kept (obTab 1 lo) alien = true := by unfold kept; rw [h]
   rw [hdrK, if_pos hkk]
   exact this
  ·unfold RO
   simp only [h]
   have : kept (obTab 1 lo) id = false := by unfold kept; rw [h]
   exact ⟨by rw [hdrK, if_neg (by simp [this])], fun b hb => by simp [ownK, this] at hb⟩
  ·have hro := r.objs id
   split at h2
   ·exact h2.elim
   ·exact h2.elim
   ·rename_i cs e
    have hkk : kept (obTab 1 lo) id = true := hk e
    obtain ⟨cs0, h3, h4⟩ := h2
    unfold RO at hro ⊢
    simp only [h3, e] at hro ⊢
    obtain ⟨b, vs, t, a1, a2, a3, a4, a5⟩ := hro
    have hl := cwL_get h4
    refine ⟨b, vs, t, by rw [hdrK, if_pos hkk]; exact a1, fun x => ?_, a3, a4.trans hl.1, fun k d u hd hu => ?_⟩
    ·simp only [ownK, hkk, true_and]; exact a2 x
    ·obtain ⟨c, hc1, hc2⟩ := hl.2 k d hd
     exact RC.keep hc2 (a5 k c u hc1 hu)
   ·rename_i dp x e
    have hkk : kept (obTab 1 lo) id = true := hk e
    unfold RO at hro ⊢
    obtain ⟨dp0, h3, hd⟩ := arrW_spec h2
    simp only [h3, e] at hro ⊢
    rw [hdrK, if_pos hkk]
    exact ⟨hro.1, hro.2.mono hd (fun _ hb => ⟨rfl, hb.keep⟩) fun b hb => ⟨rfl, hkk, hb⟩⟩
   ·rename_i x e
    have hkk : kept (obTab 1 lo) id = true := hk e
    unfold RO at hro ⊢
    simp only [h2, e] at hro ⊢
    rw [hdrK, if_pos hkk]
    exact ⟨hro.1, fun b hb => hro.2.1 b hb.2, Pers.mono' (fun _ hb => hb.keep) hro.2.2⟩
   ·rename_i x e
    have hkk : kept (obTab 1 lo) id = true := hk e
    unfold RO at hro ⊢
    simp only [h2, e] at hro ⊢
    rw [hdrK, if_pos hkk]
    refine ⟨⟨hro.1.1, hro.1.2.mono (fun h => h) (fun _ hb => ⟨rfl, hb.keep⟩) fun b hb => ⟨rfl, hkk, hb⟩⟩, fun i j cs d h3 h4 => ?_⟩
    obtain ⟨u, h5, h6⟩ := hro.2 i j cs d h3 h4
    exact ⟨u, h5, Pers.mono' (fun _ hb => hb.keep) h6⟩
 ·rcases obTab_keep (V := 1) (id := alien) ho with ⟨_, h⟩ | ⟨h, _⟩ | ⟨h, _⟩
  ·show (obTab 1 lo alien).k = _; rw [h]
  ·exact absurd rfl h
  ·exact absurd rfl h
 ·rcases obTab_keep (V := 1) (id := alien) ho with ⟨_, h⟩ | ⟨h, _⟩ | ⟨h, _⟩
  ·show (obTab 1 lo alien).ver = _; rw [h]
  ·exact absurd rfl h
  ·exact absurd rfl h
 ·have hz' : (obTab 1 lo id).ver = 0 := hz
  have key : (s.ob id).ver = 0 ∧ kept (obTab 1 lo) id = true := by
   rcases obTab_keep (V := 1) (id := id) ho with ⟨rfl, h⟩ | ⟨_, h⟩ | ⟨_, h1, h2⟩
   ·exact ⟨r.alv, by unfold kept; rw [h]⟩
   ·rw [h] at hz'; exact absurd hz' (by simp)
   ·rw [hz'] at h1
    refine ⟨by simpa using h1, ?_⟩
    unfold kept
    split
    ·rename_i e; rw [e] at h2; exact h2.elim
    ·rfl
  have := r.zero id key.1
  exact ⟨by rw [hdrK, if_pos key.2]; exact this.1, fun b => by simp only [ownK, key.2, true_and]; exact this.2 b⟩
end Hearth

/- Bytes and lists of bytes: what is said of them besides. -/
namespace Hearth
open Go
def idxF (g : DV → Bool) (l : List DV) : Int := match l.findIdx? g with | some i => i | none => -1
def okLetter (b : UInt8) : Bool := (97 ≤ b.toNat && b.toNat ≤ 122) || (48 ≤ b.toNat && b.toNat ≤ 57) || b.toNat == 45
def szOut (left : Int) (cost : Nat) : Int := if left - cost < 0 then -1 else left - cost
theorem flat_le {α : Type} (a : List (List α)) (i : Nat) : (a.take i).flatten.length ≤ a.flatten.length := by
 have := congrArg (fun l => (List.flatten l).length) (List.take_append_drop i a)
 simp only [List.flatten_append, List.length_append] at this
 omega
theorem app_nil_encB (b : List UInt8) : (DV.sl 1 []).app (encB b) = encB b := by simp [DV.app, encB, DV.rows, DV.esz]
theorem app_encBB (l m : List (List UInt8)) : (encBB l).app (encBB m) = encBB (l ++ m) := by simp [DV.app, encBB, DV.rows, DV.esz]
def labelOk (b : List UInt8) : Bool := decide (1 ≤ b.length) && decide (b.length ≤ 15) && b.all okLetter
theorem okLetter_iff (b : UInt8) : okLetter b = true ↔ (97 ≤ b.toNat ∧ b.toNat ≤ 122) ∨ (48 ≤ b.toNat ∧ b.toNat ≤ 57) ∨ b.toNat = 45 := by
 simp [okLetter, or_assoc]
theorem labelOk_no {b : List UInt8} {i : Nat} (hi : i < b.length) (h : ¬ okLetter b[i] = true) : labelOk b = false := by
 have : ¬ (b.all okLetter = true) := fun e => h (List.all_eq_true.1 e _ (List.getElem_mem hi))
 simp [labelOk, this]
theorem labelOk_step {b : List UInt8} {i : Nat} (hi : i < b.length) (h : (b.take i).all okLetter = true) (h2 : okLetter b[i] = true) : (b.take (i + 1)).all okLetter = true := by
 rw [← List.take_append_getElem hi, List.all_append, h]
 simp [h2]
def nameOk (a : List (List UInt8)) : Bool := decide (a.length ≤ 6) && a.all labelOk
theorem all_no {α : Type} {f : α → Bool} {l : List α} {i : Nat} (hi : i < l.length) (h : f l[i] = false) : l.all f = false := by
 cases e : l.all f with
 | false => rfl
 | true => rw [List.all_eq_true.1 e _ (List.getElem_mem hi)] at h; cases h
theorem all_step {α : Type} {f : α → Bool} {l : List α} {i : Nat} (hi : i < l.length) (h : (l.take i).all f = true) (h2 : f l[i] = true) : (l.take (i + 1)).all f = true := by
 rw [← List.take_append_getElem hi, List.all_append, h]
 simp [h2]
def dec8 : DV → UInt8
 | .sc (.int _ n) => UInt8.ofNat n.toNat
 | _ => 0
theorem dec8_enc (b : UInt8) : dec8 (.sc (.int .u8 b.toNat)) = b := by simp [dec8]
def decB (x : DV) : List UInt8 := x.rows.map fun r => dec8 (r.getD 0 (.sl 0 []))
theorem decB_enc (b : List UInt8) : decB (encB b) = b := by
 unfold decB encB DV.rows
 rw [List.map_map]
 refine Eq.trans (List.map_congr_left fun x _ => ?_) (List.map_id b)
 exact dec8_enc x
def is8 (x : DV) : Prop := ∃ b : UInt8, x = .sc (.int .u8 b.toNat)
theorem all_dec8 (f : UInt8 → Bool) (l : List UInt8) : (l.map fun b : UInt8 => DV.sc (.int .u8 b.toNat)).all (fun x => f (dec8 x)) = l.all f := by
 rw [List.all_map]
 congr 1
 funext b
 simp [dec8_enc]
theorem all_decB (f : List UInt8 → Bool) (l : List (List UInt8)) : (l.map encB).all (fun x => f (decB x)) = l.all f := by
 rw [List.all_map]
 congr 1
 funext b
 simp [decB_enc]
theorem mem_flat_le {α : Type} {l : List (List α)} {b : List α} (h : b ∈ l) : b.length ≤ l.flatten.length := by
 induction l with
 | nil => cases h
 | cons c l ih =>
  simp only [List.flatten_cons, List.length_append]
  rcases List.mem_cons.1 h with rfl | h
  ·omega
  ·have := ih h; omega
theorem drop_flat_le {α : Type} (l : List (List α)) (n : Nat) : (l.drop n).flatten.length ≤ l.flatten.length := by
 have := congrArg (fun l => (List.flatten l).length) (List.take_append_drop n l)
 simp only [List.flatten_append, List.length_append] at this
 omega
structure SmallBB (a : List (List UInt8)) : Prop where
 len : a.length ≤ 4194304
 mem : ∀ b ∈ a, b.length ≤ 4194304
 flat : a.flatten.length ≤ 4194304
theorem SmallBB.of {a : List (List UInt8)} (h : a.length + a.flatten.length ≤ 1048576) : SmallBB a :=
 ⟨by omega, fun b hb => by have := mem_flat_le hb; omega, by omega⟩
theorem SmallBB.drop {a : List (List UInt8)} (h : SmallBB a) (n : Nat) : SmallBB (a.drop n) :=
 ⟨by have := h.len; simp; omega, fun b hb => h.mem b (List.mem_of_mem_drop hb), Nat.le_trans (drop_flat_le a n) h.flat⟩
theorem SmallBB.cons {a : List (List UInt8)} {l : List UInt8} (h1 : a.length + 1 ≤ 4194304) (h2 : l.length ≤ 4194304) (h3 : l.length + a.flatten.length ≤ 4194304) (h : SmallBB a) : SmallBB (l :: a) :=
 ⟨by simpa using h1, fun b hb => (List.mem_cons.1 hb).elim (fun e => e ▸ h2) (h.mem b), by simpa using h3⟩
theorem SmallBB.nil : SmallBB [] := ⟨by simp, by simp, by simp⟩
end Hearth

/- The abstract machine: rules for lists that are told by their elements. -/
namespace Hearth
open Go
def notMe (id : Nat) : AC → Bool
 | .arr j _ => !(j == id)
 | _ => true
section
variable {P : Program} {k : List It} {Q : Ex → St → Prop} {s : St} {r : T} {d : Option Nat} {q : Bool} {oi : Nat} {tags : List Nat}
theorem kCallD {e f : Nat} {args : List X} {gas : List GA} {ra : List RA} {v : AV} (hok : FnOK P f gas (fun ra' _ => ra' = ra)) (hm : matchGs P s (args.map s.ev) gas) (hb : callB s e (args.map s.ev) gas true = true)
  (hc : (ra.all RA.isD && (bindGs 0 (args.map s.ev) gas).isEmpty) = true) (hc2 : ra.all RA.clean = true) (hl : decide (ra.length ≤ 64) = true) (hv : resV s e ra = v)
  (h : kont P (.t r tags :: k) Q .normal (s.put d v)) : kont P (.t (.op oi [] d none q (.call e f args) r) tags :: k) Q .normal s :=
 kCall1 true hok hm hb (by simpa using hc2) hl (fun os => by rw [St.after, if_pos hc, hv]; exact h)
theorem kCallD2 {e f : Nat} {args : List X} {gas : List GA} {ra : List RA} {v : AV} (hok : FnOK P f gas (fun ra' _ => ra' = ra)) (hm : matchGs P s (args.map s.ev) gas) (hb : callB s e (args.map s.ev) gas false = true)
  (hc : (ra.all RA.isD && (bindGs 0 (args.map s.ev) gas).isEmpty) = true) (hl : decide (ra.length ≤ 64) = true) (hv : resV s e ra = v)
  (h : kont P (.t r tags :: k) Q .normal (s.put d v)) : kont P (.t (.op oi [] d none q (.call e f args) r) tags :: k) Q .normal s :=
 kCall1 false hok hm hb rfl hl (fun os => by rw [St.after, if_pos hc, hv]; exact h)
theorem nmB {x : Nat} {l : List Nat} (h : (!l.contains x) = true) : x ∉ l := by simpa using h
theorem kMovT {x : X} {l : List AV} (hx : s.ev x = .t l) (h : kont P (.t r tags :: k) Q .normal (s.put d (.t l))) : kont P (.t (.op oi [] d none q (.mov x) r) tags :: k) Q .normal s :=
 kOp (fun _ => trivial) (by simp only [stepO, hx]; exact h)
theorem kCondP {c : X} {x y : C} {p : Prop} [dp : Decidable p] (hc : s.ev c = .c (.d (.sc (.bool (decide p))))) (h1 : p → kont P (.c x :: k) Q .normal s) (h2 : ¬ p → kont P (.c y :: k) Q .normal s) : kont P (.c (.cond c x y) :: k) Q .normal s :=
 kCond hc (fun h => h1 (of_decide_eq_true h)) (fun h => h2 (of_decide_eq_false h))
theorem kCondN {c : X} {x y : C} {b : Bool} (hc : s.ev c = .c (.d (.sc (.bool (!b))))) (h1 : b = false → kont P (.c x :: k) Q .normal s) (h2 : b = true → kont P (.c y :: k) Q .normal s) : kont P (.c (.cond c x y) :: k) Q .normal s :=
 kCond hc (fun h => h1 (by simpa using h)) (fun h => h2 (by simpa using h))
theorem kGS {g : Nat} {want b : Bool} {o : O} (hg : s.sl g = .c (.d (.sc (.bool b)))) (ht : b = true → kont P (.t (.op oi [] d (some (g, want)) q o r) tags :: k) Q .normal (s.put (some g) (.b true)))
  (hf : b = false → kont P (.t (.op oi [] d (some (g, want)) q o r) tags :: k) Q .normal (s.put (some g) (.b false))) : kont P (.t (.op oi [] d (some (g, want)) q o r) tags :: k) Q .normal s := by
 cases b with
 | true => have := ht rfl; rwa [put_id hg] at this
 | false => have := hf rfl; rwa [put_id hg] at this
theorem kGP {g : Nat} {want : Bool} {o : O} {p : Prop} [dp : Decidable p] (hg : s.sl g = .c (.d (.sc (.bool (decide p))))) (ht : p → kont P (.t (.op oi [] d (some (g, want)) q o r) tags :: k) Q .normal (s.put (some g) (.b true)))
  (hf : ¬ p → kont P (.t (.op oi [] d (some (g, want)) q o r) tags :: k) Q .normal (s.put (some g) (.b false))) : kont P (.t (.op oi [] d (some (g, want)) q o r) tags :: k) Q .normal s :=
 kGS hg (fun h => ht (of_decide_eq_true h)) (fun h => hf (of_decide_eq_false h))
theorem kGN {g : Nat} {want b : Bool} {o : O} (hg : s.sl g = .c (.d (.sc (.bool (!b))))) (ht : b = false → kont P (.t (.op oi [] d (some (g, want)) q o r) tags :: k) Q .normal (s.put (some g) (.b true)))
  (hf : b = true → kont P (.t (.op oi [] d (some (g, want)) q o r) tags :: k) Q .normal (s.put (some g) (.b false))) : kont P (.t (.op oi [] d (some (g, want)) q o r) tags :: k) Q .normal s :=
 kGS hg (fun h => ht (by simpa using h)) (fun h => hf (by simpa using h))
section
variable {α : Type} {f : α → List DV} {l l' : List α} {sz : Nat}
theorem row_map (sz : Nat) (f : α → List DV) (l : List α) (m : Nat) (h : m < l.length) : (DV.sl sz (l.map f)).row m = f l[m] := by
 unfold DV.row DV.rows
 rw [List.getD_eq_getElem?_getD, List.getElem?_map, List.getElem?_eq_getElem h]
 rfl
theorem len_map (sz : Nat) (f : α → List DV) (l : List α) : (DV.sl sz (l.map f)).len = l.length := by simp [DV.len]
theorem lt_of {n : Int} {m k : Nat} (hn : n = Int.ofNat m) (h : n < (k : Int)) : m < k := by subst hn; exact Int.ofNat_lt.1 h
theorem le_of {n : Int} {m k : Nat} (hn : n = Int.ofNat m) (h : n ≤ (k : Int)) : m ≤ k := by subst hn; exact Int.ofNat_le.1 h
theorem kLenR {x : X} {c : AC} (hx : s.ev x = .c c) (hy : s.rd c = some (.sl sz (l.map f))) (h : kont P (.t r tags :: k) Q .normal (s.put d (.i l.length))) : kont P (.t (.op oi [] d none q (.len x) r) tags :: k) Q .normal s :=
 kLen hx hy rfl (by rw [len_map]; exact h)
theorem kIadR {x i : X} {j : IntKind} {n : Int} {m : Nat} (hx : s.ev x = .c (.d (.sl sz (l.map f)))) (hi : s.ev i = .vv (.int j n)) (hn : n = Int.ofNat m) (hm : n < (l.length : Int)) (h : kont P (.t r tags :: k) Q .normal (s.put d (.c (.dpt (f (l[m]'(lt_of hn hm))))))) :
  kont P (.t (.op oi [] d none q (.iad sz x i) r) tags :: k) Q .normal s :=
 kIadD hx (hn ▸ hi) rfl rfl ⟨Int.natCast_nonneg m, by rw [len_map]; exact lt_of hn hm⟩ (by rw [show ((m : Nat) : Int).toNat = m from rfl, row_map _ _ _ _ (lt_of hn hm)]; exact h)
theorem kIadAR {x i : X} {j : IntKind} {n : Int} {m : Nat} {id ver ev : Nat} {dp : Bool} (hx : s.ev x = .c (.arr id ver)) (ho : s.ob id = ⟨ver, ev, .arr dp (.sl sz (l.map f))⟩) (hi : s.ev i = .vv (.int j n)) (hn : n = Int.ofNat m) (hm : n < (l.length : Int)) (h : kont P (.t r tags :: k) Q .normal (s.put d (.c (.ept id ver m 0)))) :
  kont P (.t (.op oi [] d none q (.iad sz x i) r) tags :: k) Q .normal s :=
 kIadA hx (hn ▸ hi) ho rfl ⟨Int.natCast_nonneg m, by rw [len_map]; exact lt_of hn hm⟩ h
theorem kLoadER {n : Option Nat} {x : X} {id ver ev i off : Nat} {dp : Bool} {v : AV} (hx : s.ev x = .c (.ept id ver i off)) (ho : s.ob id = ⟨ver, ev, .arr dp (.sl sz (l.map f))⟩) (hi : i < l.length) (hv : pickCells n (AC.ofCells id ver ev i off ((f l[i]).drop off)) = some v)
  (h : kont P (.t r (if q then oi :: tags else tags) :: k) Q .normal ((s.heldIf q [id]).put d v)) : kont P (.t (.op oi [] d none q (.load n x) r) tags :: k) Q .normal s :=
 kLoadE hx ho (by rw [row_map _ _ _ _ hi]; exact hv) h
theorem cut_map (sz : Nat) (f : α → List DV) (l : List α) (a b : Nat) : (DV.sl sz (l.map f)).cut a b = .sl sz (((l.drop a).take (b - a)).map f) := by
 simp [DV.cut, DV.esz, DV.rows, List.map_drop, List.map_take]
theorem take_all {β : Type} (l : List β) (a : Nat) : (l.drop a).take (l.length - a) = l.drop a := by
 rw [List.take_of_length_le (by simp)]
theorem kCutL {x lo : X} {j : IntKind} {n : Int} {a : Nat} (hx : s.ev x = .c (.d (.sl sz (l.map f)))) (hlo : s.ev lo = .vv (.int j n)) (hn : n = Int.ofNat a) (ha : n ≤ (l.length : Int)) (h : kont P (.t r tags :: k) Q .normal (s.put d (.dv (.sl sz ((l.drop a).map f))))) :
  kont P (.t (.op oi [] d none q (.cut sz x (some lo) none) r) tags :: k) Q .normal s :=
 kCutD (a := a) (b := l.length) hx rfl rfl (.inr ⟨j, congrArg some (by subst hn; exact hlo)⟩) (.inl ⟨rfl, (len_map _ _ _).symm⟩) ⟨le_of hn ha, by rw [len_map]; exact Nat.le_refl _⟩ (by rw [cut_map, take_all]; exact h)
theorem kCutB {x lo hi : X} {j j' : IntKind} {n n' : Int} {a b : Nat} (hx : s.ev x = .c (.d (.sl sz (l.map f)))) (hlo : s.ev lo = .vv (.int j n)) (hhi : s.ev hi = .vv (.int j' n')) (hn : n = Int.ofNat a) (hn' : n' = Int.ofNat b) (hb : n ≤ n' ∧ n' ≤ (l.length : Int)) (h : kont P (.t r tags :: k) Q .normal (s.put d (.dv (.sl sz (((l.drop a).take (b - a)).map f))))) :
  kont P (.t (.op oi [] d none q (.cut sz x (some lo) (some hi)) r) tags :: k) Q .normal s :=
 kCutD (a := a) (b := b) hx rfl rfl (.inr ⟨j, congrArg some (by subst hn; exact hlo)⟩) (.inr ⟨j', congrArg some (by subst hn'; exact hhi)⟩) ⟨by subst hn; subst hn'; exact Int.ofNat_le.1 hb.1, by rw [len_map]; exact le_of hn' hb.2⟩ (by rw [cut_map]; exact h)
section
variable {e bytes : Nat} {x y : X} {cx cy : AC} {dp dp' : Bool} {ids : List Nat} {id v ve : Nat} {vk : OK}
theorem kAppR (hx : s.ev x = .c cx) (hy : s.ev y = .c cy) (hb : s.base cx = some (dp, .sl sz (l.map f))) (hs : s.src cy = some (dp', .sl sz (l'.map f), ids)) (hid : cx.ownId e = id) (hob : s.ob id = ⟨v, ve, vk⟩)
  (h0 : Nat.ble 1 sz = true) (hh : (!s.hold.contains id && ids.all (fun j => !s.hold.contains j) && !ids.contains id && notMe id cy) = true)
  (hlen : (l.length + l'.length) * bytes ≤ 140737488355328 ∧ l.length + l'.length ≤ 9223372036854775807)
  (h : kont P (.t r tags :: k) Q .normal (((s.kill ids).setOb id ⟨v + 1, 0, .arr (dp && dp') (.sl sz ((l ++ l').map f))⟩).put d (.c (.arr id (v + 1))))) : kont P (.t (.op oi [] d none q (.app e sz bytes x y) r) tags :: k) Q .normal s :=
 kApp hx hy hb hs hid hob ⟨rfl, rfl, Nat.le_of_ble_eq_true h0⟩ (by cases cy <;> exact hh) (by rw [len_map, len_map]; exact hlen) (by
  rw [show (DV.sl sz (l.map f)).app (.sl sz (l'.map f)) = .sl sz ((l ++ l').map f) by simp [DV.app, DV.rows, DV.esz]]; exact h)
theorem kAppR1 {z : α} (hx : s.ev x = .c cx) (hy : s.ev y = .c cy) (hb : s.base cx = some (dp, .sl sz (l.map f))) (hs : s.src cy = some (dp', .sl sz [f z], ids)) (hid : cx.ownId e = id) (hob : s.ob id = ⟨v, ve, vk⟩)
  (h0 : Nat.ble 1 sz = true) (hh : (!s.hold.contains id && ids.all (fun j => !s.hold.contains j) && !ids.contains id && notMe id cy) = true)
  (hlen : (l.length + 1) * bytes ≤ 140737488355328 ∧ l.length + 1 ≤ 9223372036854775807)
  (h : kont P (.t r tags :: k) Q .normal (((s.kill ids).setOb id ⟨v + 1, 0, .arr (dp && dp') (.sl sz ((l ++ [z]).map f))⟩).put d (.c (.arr id (v + 1))))) : kont P (.t (.op oi [] d none q (.app e sz bytes x y) r) tags :: k) Q .normal s :=
 kAppR (l' := [z]) hx hy hb hs hid hob h0 hh hlen h
theorem kApp1R {z : α} (hx : s.ev x = .c cx) (hy : s.ev y = .c cy) (hs : s.src cy = some (dp', .sl sz (l'.map f), ids)) (hb : s.base cx = some (dp, .sl sz [f z])) (hid : cx.ownId e = id) (hob : s.ob id = ⟨v, ve, vk⟩)
  (h0 : Nat.ble 1 sz = true) (hh : (!s.hold.contains id && ids.all (fun j => !s.hold.contains j) && !ids.contains id && notMe id cy) = true)
  (hlen : (1 + l'.length) * bytes ≤ 140737488355328 ∧ 1 + l'.length ≤ 9223372036854775807)
  (h : kont P (.t r tags :: k) Q .normal (((s.kill ids).setOb id ⟨v + 1, 0, .arr (dp && dp') (.sl sz ((z :: l').map f))⟩).put d (.c (.arr id (v + 1))))) : kont P (.t (.op oi [] d none q (.app e sz bytes x y) r) tags :: k) Q .normal s :=
 kAppR (l := [z]) hx hy hb hs hid hob h0 hh hlen h
theorem kAppN (hx : s.ev x = .c cx) (hy : s.ev y = .c cy) (hb : s.base cx = some (dp, .sl sz [])) (hs : s.src cy = some (dp', .sl sz (l.map f), ids)) (hid : cx.ownId e = id) (hob : s.ob id = ⟨v, ve, vk⟩)
  (h0 : Nat.ble 1 sz = true) (hh : (!s.hold.contains id && ids.all (fun j => !s.hold.contains j) && !ids.contains id && notMe id cy) = true)
  (hlen : l.length * bytes ≤ 140737488355328 ∧ l.length ≤ 9223372036854775807)
  (h : kont P (.t r tags :: k) Q .normal (((s.kill ids).setOb id ⟨v + 1, 0, .arr (dp && dp') (.sl sz (l.map f))⟩).put d (.c (.arr id (v + 1))))) : kont P (.t (.op oi [] d none q (.app e sz bytes x y) r) tags :: k) Q .normal s :=
 kAppR (l := []) hx hy hb hs hid hob h0 hh (by simpa using hlen) h
end
end
end
end Hearth

/- The abstract machine: calls that write several rows. -/
namespace Hearth
open Go
def OK.isArr : OK → Bool
 | .arr _ _ => true
 | _ => false
section
variable {P : Program} {k : List It} {Q : Ex → St → Prop} {s : St} {r : T} {d : Option Nat} {q : Bool} {oi : Nat} {tags : List Nat}
section
variable {α : Type} {f : α → List DV} {l : List α} {sz : Nat}
theorem kIadT {x i : X} {j : IntKind} {n : Int} (hx : s.ev x = .c (.d (.sl sz (l.map f)))) (hi : s.ev i = .vv (.int j n)) (hm : 0 ≤ n ∧ n < (l.length : Int)) (h : kont P (.t r tags :: k) Q .normal (s.put d (.c (.dpt (f (l[n.toNat]'(by omega))))))) :
  kont P (.t (.op oi [] d none q (.iad sz x i) r) tags :: k) Q .normal s :=
 kIadR (m := n.toNat) hx hi (Int.toNat_of_nonneg hm.1).symm hm.2 h
theorem kCutLT {x lo : X} {j : IntKind} {n : Int} (hx : s.ev x = .c (.d (.sl sz (l.map f)))) (hlo : s.ev lo = .vv (.int j n)) (ha : 0 ≤ n ∧ n ≤ (l.length : Int)) (h : kont P (.t r tags :: k) Q .normal (s.put d (.dv (.sl sz ((l.drop n.toNat).map f))))) :
  kont P (.t (.op oi [] d none q (.cut sz x (some lo) none) r) tags :: k) Q .normal s :=
 kCutL (a := n.toNat) hx hlo (Int.toNat_of_nonneg ha.1).symm ha.2 h
theorem kCutBT {x lo hi : X} {j j' : IntKind} {n n' : Int} (hx : s.ev x = .c (.d (.sl sz (l.map f)))) (hlo : s.ev lo = .vv (.int j n)) (hhi : s.ev hi = .vv (.int j' n')) (hb : 0 ≤ n ∧ n ≤ n' ∧ n' ≤ (l.length : Int)) (h : kont P (.t r tags :: k) Q .normal (s.put d (.dv (.sl sz (((l.drop n.toNat).take (n'.toNat - n.toNat)).map f))))) :
  kont P (.t (.op oi [] d none q (.cut sz x (some lo) (some hi)) r) tags :: k) Q .normal s :=
 kCutB (a := n.toNat) (b := n'.toNat) hx hlo hhi (Int.toNat_of_nonneg hb.1).symm (Int.toNat_of_nonneg (by omega)).symm hb.2 h
end
section
variable {α : Type} {f : α → List DV} {l : List α} {sz : Nat}
theorem setRow_map {i off : Nat} {ds : List DV} {z : α} (hi : i < l.length) (hz : (f l[i]).take off ++ ds ++ (f l[i]).drop (off + ds.length) = f z) : setRow (.sl sz (l.map f)) i off ds = .sl sz ((l.set i z).map f) := by
 unfold setRow
 rw [row_map _ _ _ _ hi, hz]
 simp [DV.esz, DV.rows, List.map_set]
theorem kStoreER {n : Option Nat} {x v : X} {id ver ev i off : Nat} {dp dp2 : Bool} {u : AV} {ds : List DV} {ids : List Nat} {z : α} (hx : s.ev x = .c (.ept id ver i off)) (hv : s.ev v = u) (ho : s.ob id = ⟨ver, ev, .arr dp (.sl sz (l.map f))⟩) (hp : s.parts u.cells = some (ds, dp2, ids))
  (hh : (!s.hold.contains id && ids.all (fun j => !s.hold.contains j) && !ids.contains id && nodupB ids && decide (u.shape = n) && decide (0 < ds.length)) = true) (hver : (ids.isEmpty || Nat.ble 1 ver) = true) (hoff : Nat.ble (off + ds.length) sz = true)
  (hi : i < l.length) (hz : (f l[i]).take off ++ ds ++ (f l[i]).drop (off + ds.length) = f z)
  (h : kont P (.t r tags :: k) Q .normal (((s.kill ids).setOb id ⟨ver, ev + 1, .arr (dp && dp2) (.sl sz ((l.set i z).map f))⟩).put d (.c .any))) : kont P (.t (.op oi [] d none q (.store n x v) r) tags :: k) Q .normal s :=
 kStoreE hx hv ho hp hh (by
  simp only [Bool.or_eq_true, List.isEmpty_iff] at hver
  exact hver.imp (fun h => h) Nat.le_of_ble_eq_true) (Nat.le_of_ble_eq_true hoff) (by rw [setRow_map hi hz]; exact h)
end
theorem take_set_rep {α : Type} (a : List α) (c : α) (i : Nat) (h : i < a.length) : (a.take i ++ (List.replicate a.length c).drop i).set i a[i] = a.take (i + 1) ++ (List.replicate a.length c).drop (i + 1) := by
 rw [take_set_succ _ _ _ _ (by simpa using h) (by simp; omega), List.take_append_getElem]
theorem kCondIN {c : X} {x y : C} {a b : Int} (hc : s.ev c = .c (.d (.sc (.bool (a != b))))) (h1 : a ≠ b → kont P (.c x :: k) Q .normal s) (h2 : a = b → kont P (.c y :: k) Q .normal s) : kont P (.c (.cond c x y) :: k) Q .normal s :=
 kCond hc (fun h => h1 (by simpa using h)) (fun h => h2 (by simpa using h))
theorem kGIN {g : Nat} {want : Bool} {o : O} {a b : Int} (hg : s.sl g = .c (.d (.sc (.bool (a != b))))) (ht : a ≠ b → kont P (.t (.op oi [] d (some (g, want)) q o r) tags :: k) Q .normal (s.put (some g) (.b true)))
  (hf : a = b → kont P (.t (.op oi [] d (some (g, want)) q o r) tags :: k) Q .normal (s.put (some g) (.b false))) : kont P (.t (.op oi [] d (some (g, want)) q o r) tags :: k) Q .normal s :=
 kGS hg (fun h => ht (by simpa using h)) (fun h => hf (by simpa using h))
theorem kCut {x y : C} {s0 : St} (t : St) (h : kont P (.c x :: k) Q .normal t) (h2 : ∀ x' : C, (∀ s, Sub s t → kont P (.c x' :: k) Q .normal s) → kont P (.c y :: .c x' :: k) Q .normal s0) : kont P (.c y :: .c x :: k) Q .normal s0 :=
 h2 x (fun _ hs => kSub hs h)
end
end Hearth

/- The abstract machine: what a state tells, noted down. -/
namespace Hearth
open Go
def memoOb : List (Nat × Ob) → (Nat → Ob) → Nat → Ob
 | [], f, j => f j
 | (i, o) :: l, f, j => cond (Nat.beq j i) o (memoOb l f j)
def memoSl : List (Nat × AV) → (Nat → AV) → Nat → AV
 | [], f, j => f j
 | (i, o) :: l, f, j => cond (Nat.beq j i) o (memoSl l f j)
def agOb : List (Nat × Ob) → (Nat → Ob) → Prop
 | [], _ => True
 | (i, o) :: l, f => f i = o ∧ agOb l f
def agSl : List (Nat × AV) → (Nat → AV) → Prop
 | [], _ => True
 | (i, o) :: l, f => f i = o ∧ agSl l f
theorem memoOb_eq : ∀ {l : List (Nat × Ob)} {f : Nat → Ob}, agOb l f → memoOb l f = f
 | [], _, _ => rfl
 | (i, o) :: l, f, h => by
  funext j
  simp only [memoOb, memoOb_eq h.2]
  cases e : Nat.beq j i with
  | false => rfl
  | true => rw [Nat.eq_of_beq_eq_true e]; exact h.1.symm
theorem memoSl_eq : ∀ {l : List (Nat × AV)} {f : Nat → AV}, agSl l f → memoSl l f = f
 | [], _, _ => rfl
 | (i, o) :: l, f, h => by
  funext j
  simp only [memoSl, memoSl_eq h.2]
  cases e : Nat.beq j i with
  | false => rfl
  | true => rw [Nat.eq_of_beq_eq_true e]; exact h.1.symm
section
variable {P : Program} {ks : List It} {Q : Ex → St → Prop} {s : St} {e : Ex}
theorem kMem (lo : List (Nat × Ob)) (l : List (Nat × AV)) (hl : List Nat) (h1 : agOb lo s.ob) (h2 : agSl l s.sl) (h3 : s.hold = hl) (h : kont P ks Q e ⟨memoSl l s.sl, memoOb lo s.ob, hl⟩) : kont P ks Q e s := by
 rw [memoSl_eq h2, memoOb_eq h1] at h
 subst h3
 exact h
end
def St.fillG (s : St) : List (Nat × Nat × X) → Nat → List AC → Option (List AC)
 | [], _, rest => some rest
 | (off, n, x) :: r, pos, rest =>
  cond (Nat.ble pos off && Nat.ble (off - pos + n) rest.length && Nat.beq (s.ev x).cells.length n && Nat.ble 1 n && (s.ev x).cells.all s.live)
   (match s.fillG r (off + n) (rest.drop (off - pos + n)) with
    | some cs => some (rest.take (off - pos) ++ ((s.ev x).cells ++ cs))
    | none => none) none
theorem fillG_fill {s : St} : ∀ {ps : List (Nat × Nat × X)} {pos : Nat} {pre rest out : List AC}, pre.length = pos → s.fillG ps pos rest = some out → s.fill (pre ++ rest) ps = some (pre ++ out)
 | [], pos, pre, rest, out, hp, h => by simp only [St.fillG, Option.some.injEq] at h; subst h; rfl
 | (off, n, x) :: r, pos, pre, rest, out, hp, h => by
  simp only [St.fillG] at h
  cases hc : (Nat.ble pos off && Nat.ble (off - pos + n) rest.length && Nat.beq (s.ev x).cells.length n && Nat.ble 1 n && (s.ev x).cells.all s.live) with
  | false => rw [hc] at h; cases h
  | true =>
   rw [hc, cond_true] at h
   simp only [Bool.and_eq_true, Nat.ble_eq, Nat.beq_eq] at hc
   obtain ⟨⟨⟨⟨h1, h2⟩, h3⟩, h4⟩, h5⟩ := hc
   split at h
   ·rename_i cs hcs
    simp only [Option.some.injEq] at h
    subst h
    subst hp
    have hpatch : patch (pre ++ rest) off (s.ev x).cells = (pre ++ rest.take (off - pre.length) ++ (s.ev x).cells) ++ rest.drop (off - pre.length + n) := by
     unfold patch
     rw [h3, List.take_append, List.drop_append, List.take_of_length_le (by omega), List.drop_eq_nil_of_le (as := pre) (by omega), List.nil_append, show off + n - pre.length = off - pre.length + n by omega]
    have hl : (pre ++ rest.take (off - pre.length) ++ (s.ev x).cells).length = off + n := by
     simp only [List.length_append, List.length_take, h3]; omega
    have ih := fillG_fill (s := s) (pre := pre ++ rest.take (off - pre.length) ++ (s.ev x).cells) hl hcs
    unfold St.fill
    rw [if_pos ⟨by simp only [List.length_append]; omega, h3, h4, h5⟩, hpatch, ih]
    simp only [List.append_assoc]
   ·cases h
section
variable {P : Program} {k : List It} {Q : Ex → St → Prop} {s : St} {d : Option Nat} {q : Bool} {r : T} {oi : Nat} {tags : List Nat}
theorem kBuildG {zs : List X} {ps : List (Nat × Nat × X)} {cs : List AC} (hf : s.fillG ps 0 (zs.map X.ac) = some cs) (h : kont P (.t r tags :: k) Q .normal (s.put d (.g cs))) : kont P (.t (.op oi [] d none q (.build zs ps) r) tags :: k) Q .normal s :=
 kBuild (fillG_fill (pre := []) rfl hf) h
end
theorem Sub.normA {s : St} {l : List (Nat × AV)} {lo : List (Nat × Ob)} (hc : chkV s (obTab 1 lo) l := by (repeat' first | exact trivial | refine And.intro ?_ ?_ | refine Exists.intro _ (And.intro rfl ?_) | exact rfl | exact .inl rfl | exact .inr ⟨_, rfl, rfl⟩ | exact ⟨_, rfl⟩ | exact .inl (congrArg (fun z : Int => AC.d (.sc (.int .i64 z))) (by first | omega | (simp only; omega) | (simp; done) | (simp; omega))) | exact .inl (congrArg (fun z : Bool => AC.d (.sc (.bool z))) (by (simp_all); first | done | fail)) | (rw [← List.take_append_getElem (by assumption)]; rfl) | (rw [← take_set_rep _ _ _ (by assumption)]; rfl)); first | done | fail)
  (ho : chkW s (obTab 1 lo) lo := by (repeat' first | exact trivial | refine And.intro ?_ ?_ | refine Exists.intro _ (And.intro rfl ?_) | exact rfl | exact .inl rfl | exact .inr ⟨_, rfl, rfl⟩ | exact ⟨_, rfl⟩ | exact .inl (congrArg (fun z : Int => AC.d (.sc (.int .i64 z))) (by first | omega | (simp only; omega) | (simp; done) | (simp; omega))) | exact .inl (congrArg (fun z : Bool => AC.d (.sc (.bool z))) (by (simp_all); first | done | fail)) | (rw [← List.take_append_getElem (by assumption)]; rfl) | (rw [← take_set_rep _ _ _ (by assumption)]; rfl)); first | done | fail) : Sub s ⟨tabSl l, obTab 1 lo, []⟩ := Sub.norm hc ho
theorem endRetA {gas : List GA} {slots : List RSl} {R : List RA → Outs → Prop} {s : St} {ra : List RA} {avs : List AV} (h : s.resAts slots = some avs) (hR : R ra s.outs)
  (he : EndOK gas avs ra s := by (repeat' first | exact trivial | exact rfl | exact .inl rfl | exact nodupB_sound rfl | exact .inl (Nat.zero_lt_succ _) | exact .inr ⟨Nat.zero_lt_succ _, nmB rfl⟩ | exact fun _ => rfl | exact fun h => h | exact Nat.le_of_ble_eq_true rfl | exact ⟨_, rfl, fun _ => rfl⟩ | refine Exists.intro _ (And.intro rfl ?_) | refine ⟨?_, ?_⟩ | fail); first | done | fail) : EndQ gas slots R .ret s := endRet h he hR
theorem endNormalA {gas : List GA} {slots : List RSl} {R : List RA → Outs → Prop} {s : St} {ra : List RA} {avs : List AV} (h : s.resAts slots = some avs) (hR : R ra s.outs)
  (he : EndOK gas avs ra s := by (repeat' first | exact trivial | exact rfl | exact .inl rfl | exact nodupB_sound rfl | exact .inl (Nat.zero_lt_succ _) | exact .inr ⟨Nat.zero_lt_succ _, nmB rfl⟩ | exact fun _ => rfl | exact fun h => h | exact Nat.le_of_ble_eq_true rfl | exact ⟨_, rfl, fun _ => rfl⟩ | refine Exists.intro _ (And.intro rfl ?_) | refine ⟨?_, ?_⟩ | fail); first | done | fail) : EndQ gas slots R .normal s := endNormal h he hR
section
variable {α : Type} {P : Program} {k : List It} {Q : Ex → St → Prop} {s : St} {d : Option Nat} {q : Bool} {r : T} {oi : Nat} {tags : List Nat} {f : α → List DV} {l : List α} {sz : Nat}
theorem kIadRW {x i : X} {j : IntKind} {n : Int} {m : Nat} {z : α} (hx : s.ev x = .c (.d (.sl sz (l.map f)))) (hi : s.ev i = .vv (.int j n)) (hn : n = Int.ofNat m) (hm : m < l.length) (hw : l[m]'hm = z) (h : kont P (.t r tags :: k) Q .normal (s.put d (.c (.dpt (f z))))) :
  kont P (.t (.op oi [] d none q (.iad sz x i) r) tags :: k) Q .normal s := by
 subst hw
 exact kIadR hx hi hn (by rw [hn]; exact Int.ofNat_lt.2 hm) h
end
def sr (n : Int) (m : Nat) : Int := n.fdiv (2 ^ m)
theorem sr_sr (n : Int) (i j : Nat) : sr (sr n i) j = sr n (i + j) := by
 unfold sr
 have h1 : (0 : Int) ≤ 2 ^ i := Int.pow_nonneg (by decide)
 have h2 : (0 : Int) ≤ 2 ^ j := Int.pow_nonneg (by decide)
 have h3 : (0 : Int) ≤ 2 ^ (i + j) := Int.pow_nonneg (by decide)
 rw [Int.fdiv_eq_ediv_of_nonneg _ h1, Int.fdiv_eq_ediv_of_nonneg _ h2, Int.fdiv_eq_ediv_of_nonneg _ h3, Int.ediv_ediv_of_nonneg h1, Int.pow_add]
section
variable {P : Program} {k : List It} {Q : Ex → St → Prop} {s : St} {d : Option Nat} {q : Bool} {r : T} {oi : Nat} {tags : List Nat}
theorem kShr {x y : X} {a : Int} {j : IntKind} {m : Nat} (hx : s.ev x = .i a) (hy : s.ev y = .vv (.int j m)) (hm : Nat.ble m 63 = true) (h : kont P (.t r tags :: k) Q .normal (s.put d (.i (sr a m)))) :
  kont P (.t (.op oi [] d none q (.bin .shr x y) r) tags :: k) Q .normal s :=
 kBin hx hy (by
  have : m ≤ 63 := Nat.le_of_ble_eq_true hm
  have h0 : ¬ ((m : Int) < 0) := by omega
  simp only [evBin, if_neg h0, Int.toNat_natCast]
  rw [show min m IntKind.i64.bits = m from Nat.min_eq_left (by show m ≤ 64; omega)]
  rfl) h
theorem kConvU8 {j : IntKind} {x : X} {n : Int} (hx : s.ev x = .vv (.int j n)) (h : kont P (.t r tags :: k) Q .normal (s.put d (.vv (.int .u8 ((u8 n).toNat : Int))))) : kont P (.t (.op oi [] d none q (.conv .u8 x) r) tags :: k) Q .normal s :=
 kConv hx (by rw [← u8_toNat]; exact h)
end
section
variable {α : Type} {P : Program} {k : List It} {Q : Ex → St → Prop} {s : St} {d : Option Nat} {q : Bool} {r : T} {oi : Nat} {tags : List Nat} {f : α → List DV} {l : List α} {sz : Nat}
variable {e bytes : Nat} {x y : X} {cx cy : AC} {dp dp' : Bool} {ids : List Nat} {id v ve : Nat} {vk : OK}
theorem kAppR4 {z1 z2 z3 z4 : α} (hx : s.ev x = .c cx) (hy : s.ev y = .c cy) (hb : s.base cx = some (dp, .sl sz (l.map f))) (hs : s.src cy = some (dp', .sl sz [f z1, f z2, f z3, f z4], ids)) (hid : cx.ownId e = id) (hob : s.ob id = ⟨v, ve, vk⟩)
  (h0 : Nat.ble 1 sz = true) (hh : (!s.hold.contains id && ids.all (fun j => !s.hold.contains j) && !ids.contains id && notMe id cy) = true)
  (hlen : (l.length + 4) * bytes ≤ 140737488355328 ∧ l.length + 4 ≤ 9223372036854775807)
  (h : kont P (.t r tags :: k) Q .normal (((s.kill ids).setOb id ⟨v + 1, 0, .arr (dp && dp') (.sl sz ((l ++ [z1, z2, z3, z4]).map f))⟩).put d (.c (.arr id (v + 1))))) : kont P (.t (.op oi [] d none q (.app e sz bytes x y) r) tags :: k) Q .normal s :=
 kAppR (l' := [z1, z2, z3, z4]) hx hy hb hs hid hob h0 hh hlen h
end
section
variable {P : Program} {k : List It} {Q : Ex → St → Prop} {s : St} {d : Option Nat} {q : Bool} {r : T} {oi : Nat} {tags : List Nat}
theorem kMmMin {x y : X} {m n : Int} (hx : s.ev x = .i m) (hy : s.ev y = .i n) (h : kont P (.t r tags :: k) Q .normal (s.put d (.i (min m n)))) : kont P (.t (.op oi [] d none q (.mm false x y) r) tags :: k) Q .normal s :=
 kMm hx hy (by
  rw [show (if false = true then (if n > m then n else m) else (if n < m then n else m)) = min m n by
   rw [if_neg (by decide)]; split <;> omega]
  exact h)
end
section
variable {P : Program} {k : List It} {Q : Ex → St → Prop} {s : St} {d : Option Nat} {q : Bool} {r : T} {oi : Nat} {tags : List Nat}
theorem kLen0 {x : X} {sz : Nat} (hx : s.ev x = .c (.d (.sl sz []))) (h : kont P (.t r tags :: k) Q .normal (s.put d (.i 0))) : kont P (.t (.op oi [] d none q (.len x) r) tags :: k) Q .normal s :=
 kLen hx rfl rfl (by exact h)
end
section
variable {P : Program} {k : List It} {Q : Ex → St → Prop} {s : St} {d : Option Nat} {q : Bool} {r : T} {oi : Nat} {tags : List Nat}
end
section
variable {P : Program} {k : List It} {Q : Ex → St → Prop} {s : St} {d : Option Nat} {q : Bool} {r : T} {oi : Nat} {tags : List Nat}
end
end Hearth

/- The abstract machine: draws (calls that tell something of a kind, and move a cursor), strings. -/
namespace Hearth
open Go
section
variable {P : Program} {k : List It} {Q : Ex → St → Prop} {s : St} {r : T} {d : Option Nat} {q : Bool} {oi : Nat} {tags : List Nat}
theorem after_congr_box {e : Nat} {ra : List RA} {p id : Nat} {os os' : Outs} {v ev : Nat} {cs : List AC} (ho : s.ob id = ⟨v, ev, .box cs⟩) (h : os.b p = os'.b p) : s.after e ra [(p, id, false)] os = s.after e ra [(p, id, false)] os' := by
 unfold St.after
 split
 ·rfl
 ·refine congrArg (fun o => (⟨s.sl, o, s.hold⟩ : St)) (funext fun id' => ?_)
  split
  ·rfl
  ·by_cases e : id = id'
   ·subst e
    simp only [List.find?_cons, beq_self_eq_true, ho, h]
   ·have : (id == id') = false := by simpa using e
    simp only [List.find?_cons, this, List.find?_nil]
theorem kCallE {α : Type} {C : α → Prop} {f : α → List RA} {g : α → List DV} {e fn : Nat} {args : List X} {gas : List GA} {p id v ev : Nat} {cs : List AC}
  (hok : FnOK P fn gas (fun ra' os => ∃ x, C x ∧ ra' = f x ∧ os.b p = g x)) (hm : matchGs P s (args.map s.ev) gas) (hb : callB s e (args.map s.ev) gas false = true)
  (hbs : bindGs 0 (args.map s.ev) gas = [(p, id, false)]) (ho : s.ob id = ⟨v, ev, .box cs⟩) (hl : ∀ x, decide ((f x).length ≤ 64) = true)
  (h : ∀ x, C x → kont P (.t r tags :: k) Q .normal ((s.after e (f x) [(p, id, false)] ⟨fun _ => .sl 0 [], fun _ => g x⟩).put d (resV s e (f x)))) : kont P (.t (.op oi [] d none q (.call e fn args) r) tags :: k) Q .normal s :=
 kCall false hok hm hb nofun (fun ra' _ ⟨x, _, e1, _⟩ => by rw [e1]; simpa using hl x) (fun ra' os ⟨x, hC, e1, hy⟩ => by
  subst e1
  rw [hbs, after_congr_box (os' := ⟨fun _ => .sl 0 [], fun _ => g x⟩) ho hy]
  exact h x hC)
theorem kCallX {α : Type} {C : α → Prop} {f : α → List RA} {e fn : Nat} {args : List X} {gas : List GA} (clean : Bool)
  (hok : FnOK P fn gas (fun ra' _ => ∃ x, C x ∧ ra' = f x)) (hm : matchGs P s (args.map s.ev) gas) (hb : callB s e (args.map s.ev) gas clean = true) (hc : ∀ x, (!clean || (f x).all RA.clean) = true) (hl : ∀ x, decide ((f x).length ≤ 64) = true)
  (h : ∀ x os, C x → kont P (.t r tags :: k) Q .normal ((s.after e (f x) (bindGs 0 (args.map s.ev) gas) os).put d (resV s e (f x)))) : kont P (.t (.op oi [] d none q (.call e fn args) r) tags :: k) Q .normal s :=
 kCall clean hok hm hb (fun hcl ra' _ ⟨x, _, e1⟩ => by subst e1; have := hc x; rw [hcl] at this; simpa using this) (fun ra' _ ⟨x, _, e1⟩ => by rw [e1]; simpa using hl x) (fun ra' os ⟨x, hC, e1⟩ => by
  subst e1
  exact h x os hC)
theorem kS2s {x : X} {id ver ev sz : Nat} {dp : Bool} {y : List DV} {ys : List (List DV)} (hx : s.ev x = .c (.arr id ver)) (ho : s.ob id = ⟨ver, ev, .arr dp (.sl sz (y :: ys))⟩) (hh : (!s.hold.contains id) = true)
  (h : kont P (.t r tags :: k) Q .normal ((s.setOb id ⟨ver + 1, 0, .dead⟩).put d (.dv (.sl sz (y :: ys))))) : kont P (.t (.op oi [] d none false (.s2s x) r) tags :: k) Q .normal s :=
 kOp nofun (by
  simp only [stepO, hx, St.obj, ho, if_true]
  refine ⟨by simpa using hh, ?_⟩
  simp only [St.newOb, ho]
  exact h)
theorem kS2sB {x : X} {id ver ev : Nat} {dp : Bool} {y : UInt8} {ys : List UInt8} (hx : s.ev x = .c (.arr id ver)) (ho : s.ob id = ⟨ver, ev, .arr dp (.sl 1 ((y :: ys).map fun b => [.sc (.int .u8 b.toNat)]))⟩) (hh : (!s.hold.contains id) = true)
  (h : kont P (.t r tags :: k) Q .normal ((s.setOb id ⟨ver + 1, 0, .dead⟩).put d (.dv (encB (y :: ys))))) : kont P (.t (.op oi [] d none false (.s2s x) r) tags :: k) Q .normal s :=
 kS2s hx ho hh h
end
section
variable {P : Program} {k : List It} {Q : Ex → St → Prop} {s : St} {r : T} {d : Option Nat} {q : Bool} {oi : Nat} {tags : List Nat}
theorem kLitG {e sz n : Nat} {zs : List X} {ps : List (Nat × Nat × X)} {cs : List AC} {ds : List DV} {dp : Bool} {ids : List Nat} (hf : s.fillG ps 0 ((List.replicate n (zs.map X.ac)).flatten) = some cs) (hp : s.parts cs = some (ds, dp, ids))
  (hb : (Nat.beq cs.length (n * sz) && Nat.beq zs.length sz && Nat.ble (n * sz) 16777216 && Nat.ble n 9223372036854775807 && !s.hold.contains (rid e 0) && nodupB ids && ids.all (fun j => !s.hold.contains j) && !ids.contains (rid e 0)) = true) {vv ve : Nat} {vk : OK} (hob : s.ob (rid e 0) = ⟨vv, ve, vk⟩)
  (h : kont P (.t r tags :: k) Q .normal (((s.kill ids).setOb (rid e 0) ⟨vv + 1, 0, .arr dp (.sl sz (chunk sz n ds))⟩).put d (.c (.arr (rid e 0) (vv + 1))))) : kont P (.t (.op oi [] d none q (.lit e sz zs n ps) r) tags :: k) Q .normal s :=
 kLit (fillG_fill (pre := []) rfl hf) hp hb hob h
theorem kLitD {e sz n : Nat} {zs : List X} {ps : List (Nat × Nat × X)} {cs : List AC} {ds : List DV} {dp : Bool} {ids : List Nat} (hf : s.fillG ps 0 ((List.replicate n (zs.map X.ac)).flatten) = some cs) (hp : s.parts cs = some (ds, dp, ids))
  (hb : (Nat.beq cs.length (n * sz) && Nat.beq zs.length sz && Nat.ble (n * sz) 16777216 && Nat.ble n 9223372036854775807 && !s.hold.contains (rid e 0) && nodupB ids && ids.all (fun j => !s.hold.contains j) && !ids.contains (rid e 0)) = true) {vv ve : Nat} {vk : OK} (hob : s.ob (rid e 0) = ⟨vv, ve, vk⟩)
  (h : kont P (.t r tags :: k) Q .normal (((s.kill ids).setOb (rid e 0) ⟨vv + 1 + 1, 0, .dead⟩).put d (.dv (.sl sz (chunk sz n ds))))) : kont P (.t (.op oi [] d none q (.lit e sz zs n ps) r) tags :: k) Q .normal s :=
 kLitD0 (fillG_fill (pre := []) rfl hf) hp hb hob h
end
structure Cu where
 code : List UInt8
 i : Int
 h : Int
 i0 : 0 ≤ i
 i1 : i ≤ (code.length : Int)
 b : (code.length : Int) ≤ 9223372036854775807
def Cu.cells (c : Cu) : List DV := [encB c.code, .sc (.int .i64 c.i), .sc (.int .i64 c.h)]
theorem and255 (x : BitVec 64) : 0 ≤ IntKind.i64.wrap ((x &&& BitVec.ofInt 64 255).toNat : Int) ∧ IntKind.i64.wrap ((x &&& BitVec.ofInt 64 255).toNat : Int) ≤ 255 := by
 have h : (x &&& BitVec.ofInt 64 255).toNat ≤ 255 := by
  rw [BitVec.toNat_and]
  exact Nat.le_trans Nat.and_le_right (by decide)
 rw [wrap64 (by omega)]; omega
end Hearth

/- The program's records, as data; what is said of them. -/
namespace Hearth
open Go
def encI (l : List Int) : DV := .sl 1 (l.map fun n => [.sc (.int .i64 n)])
def encBo (l : List Bool) : DV := .sl 1 (l.map fun n => [.sc (.bool n)])
structure Rr where
 name : List (List UInt8)
 ty : Int
 ttl : Int
 addr : Int
 to : List (List UInt8)
 text : List UInt8
 nums : List Int
 deriving DecidableEq
def Rr.cells (r : Rr) : List DV := [encBB r.name, .sc (.int .i64 r.ty), .sc (.int .i64 r.ttl), .sc (.int .i64 r.addr), encBB r.to, encB r.text, encI r.nums]
def encR (l : List Rr) : DV := .sl 7 (l.map Rr.cells)
structure Task where
 state : Int
 id : Int
 fname : List (List UInt8)
 ftype : Int
 name : List (List UInt8)
 zone : List (List UInt8)
 hints : List Int
 servers : List Int
 turn : Int
 sends : Int
 steps : Int
 code : Int
 answers : List Rr
 deriving DecidableEq
def Task.cells (t : Task) : List DV := [.sc (.int .i64 t.state), .sc (.int .i64 t.id), encBB t.fname, .sc (.int .i64 t.ftype), encBB t.name, encBB t.zone, encI t.hints, encI t.servers, .sc (.int .i64 t.turn), .sc (.int .i64 t.sends), .sc (.int .i64 t.steps), .sc (.int .i64 t.code), encR t.answers]
structure SmallR (r : Rr) : Prop where
 n : SmallBB r.name
 t : SmallBB r.to
 x : r.text.length ≤ 4194304
 m : r.nums.length ≤ 4194304
structure SmallRs (l : List Rr) : Prop where
 len : l.length ≤ 4194304
 mem : ∀ r ∈ l, SmallR r
structure SmallT (t : Task) : Prop where
 f : SmallBB t.fname
 n : SmallBB t.name
 z : SmallBB t.zone
 h : t.hints.length ≤ 4194304
 s : t.servers.length ≤ 4194304
 a : SmallRs t.answers
def fcAgg {α : Type} (D : α → Prop) (cells : α → List DV) (g : α → Bool) : FC := fun as R => ∃ x, D x ∧ as = [DA.agg (cells x)] ∧ R = fun ra => ra = [.one (.d (.sc (.bool (g x))))]
def idx {α : Type} (g : α → Bool) (l : List α) : Int := match l.findIdx? g with | some i => i | none => -1
theorem idx_ge {α : Type} (g : α → Bool) (l : List α) : decide (idx g l ≥ 0) = l.any g := by
 unfold idx
 cases h : l.findIdx? g with
 | none =>
  rw [List.findIdx?_eq_none_iff] at h
  have : l.any g = false := by rw [List.any_eq_false]; intro x hx; simp [h x hx]
  rw [this]; rfl
 | some i =>
  rw [List.findIdx?_eq_some_iff_getElem] at h
  obtain ⟨h1, h2, _⟩ := h
  have : l.any g = true := by rw [List.any_eq_true]; exact ⟨_, List.getElem_mem h1, h2⟩
  rw [this]; simp
def tyOk (t : Int) : Bool := t == 1 || t == 2 || t == 5 || t == 6 || t == 12 || t == 16 || t == 49
def isW (n : Int) : Bool := decide (0 ≤ n) && decide (n < 4294967296)
def hasTo (t : Int) : Bool := t == 2 || t == 5 || t == 6 || t == 12
def hasText (t : Int) : Bool := t == 16 || t == 49
@[simp] def numsOk (l : List Int) : Bool := if h : (l.length : Int) = 2 then isW (l[0]'(by omega)) && decide (0 ≤ l[1]'(by omega) ∧ l[1]'(by omega) ≤ 100000) else false
def dataOk (r : Rr) : Bool :=
 (if r.ty == 6 then numsOk r.nums else ((r.nums.length : Int) == 0)) && (if r.ty == 1 then isW r.addr else r.addr == 0) && (if hasTo r.ty then nameOk r.to else ((r.to.length : Int) == 0)) && (if hasText r.ty then decide ((r.text.length : Int) ≤ 40) else ((r.text.length : Int) == 0))
theorem len0 {α : Type} {l : List α} (h : (l.length : Int) = 0) : l = [] := List.eq_nil_of_length_eq_zero (by omega)
@[simp] theorem intlen0 {α : Type} {l : List α} : ((l.length : Int) = 0) ↔ l = [] := ⟨len0, fun h => by rw [h]; rfl⟩
@[simp] theorem isW_zero : isW 0 = true := rfl
@[simp] theorem nameOk_nil : nameOk [] = true := rfl
def rrOk (r : Rr) : Bool := nameOk r.name && tyOk r.ty && (decide (0 ≤ r.ttl) && decide (r.ttl ≤ 100000)) && dataOk r
def rrsOk (l : List Rr) : Bool := decide ((l.length : Int) ≤ 12) && l.all rrOk
@[simp] theorem bt_list (l : List UInt8) : (ByteArray.mk l.toArray).toList = l := by rw [ByteArray.toList_eq]
def cmpB (a b : List UInt8) : Int := if Op.bytesLess a b = true then -1 else if (!(Op.bytesLess a b || a == b)) = true then 1 else 0
theorem bytesLess_irrefl : ∀ a : List UInt8, Op.bytesLess a a = false
 | [] => rfl
 | x :: xs => by simp [Op.bytesLess, bytesLess_irrefl xs]
theorem cmpB_zero (a b : List UInt8) : (cmpB a b == 0) = decide (a = b) := by
 unfold cmpB
 by_cases h : a = b
 ·subst h; simp [bytesLess_irrefl]
 ·cases hb : Op.bytesLess a b with
  | true => simp [h]
  | false => simp [h]
def cmpL : List (List UInt8) → List (List UInt8) → Int
 | [], [] => 0
 | [], _ :: _ => -1
 | _ :: _, [] => 1
 | x :: xs, y :: ys => if cmpB x y = 0 then cmpL xs ys else cmpB x y
def cmpN (a b : List (List UInt8)) : Int := cmpL a.reverse b.reverse
theorem cmpL_zero : ∀ a b : List (List UInt8), cmpL a b = 0 ↔ a = b
 | [], [] => by simp [cmpL]
 | [], _ :: _ => by simp [cmpL]
 | _ :: _, [] => by simp [cmpL]
 | x :: xs, y :: ys => by
  have h := cmpB_zero x y
  simp only [cmpL]
  by_cases hxy : x = y
  ·subst hxy
   rw [if_pos (by simpa using h), cmpL_zero xs ys]; simp
  ·have : ¬ cmpB x y = 0 := by simpa [hxy] using h
   rw [if_neg this]; simp [hxy, this]
theorem cmpN_zero (a b : List (List UInt8)) : (cmpN a b == 0) = decide (a = b) := by
 rw [Bool.eq_iff_iff]
 simp [cmpN, cmpL_zero, List.reverse_inj]
theorem cmpL_step (a b : List (List UInt8)) (k : Nat) (h1 : k < a.length) (h2 : k < b.length) (i j : Nat) (hi : i = a.length - (k + 1)) (hj : j = b.length - (k + 1)) :
  cmpL (a.reverse.drop k) (b.reverse.drop k) = if cmpB (a[i]'(by omega)) (b[j]'(by omega)) = 0 then cmpL (a.reverse.drop (k + 1)) (b.reverse.drop (k + 1)) else cmpB (a[i]'(by omega)) (b[j]'(by omega)) := by
 subst hi; subst hj
 rw [List.drop_eq_getElem_cons (l := a.reverse) (by simpa using h1), List.drop_eq_getElem_cons (l := b.reverse) (by simpa using h2), cmpL]
 simp only [List.getElem_reverse]
 have e : ∀ n : Nat, n - 1 - k = n - (k + 1) := fun n => by omega
 simp only [e]
theorem cmpL_end (a b : List (List UInt8)) (k : Nat) (h1 : k ≤ a.length) (h2 : k ≤ b.length) (h : k = a.length ∨ k = b.length) :
  cmpL (a.reverse.drop k) (b.reverse.drop k) = if a.length = b.length then 0 else if a.length < b.length then -1 else 1 := by
 rcases h with h | h
 ·rw [List.drop_eq_nil_of_le (as := a.reverse) (by simp; omega)]
  by_cases e : a.length = b.length
  ·rw [List.drop_eq_nil_of_le (by simp; omega), if_pos e]; rfl
  ·rw [List.drop_eq_getElem_cons (l := b.reverse) (by simp; omega), if_neg e, if_pos (by omega)]; rfl
 ·rw [List.drop_eq_nil_of_le (as := b.reverse) (by simp; omega)]
  by_cases e : a.length = b.length
  ·rw [List.drop_eq_nil_of_le (by simp; omega), if_pos e]; rfl
  ·rw [List.drop_eq_getElem_cons (l := a.reverse) (by simp; omega), if_neg e, if_neg (by omega)]; rfl
def underN (n z : List (List UInt8)) : Bool := decide (z.length ≤ n.length) && decide (n.drop (n.length - z.length) = z)
def decI : DV → Int
 | .sc (.int _ n) => n
 | _ => 0
def isI (x : DV) : Prop := ∃ n : Int, x = .sc (.int .i64 n)
theorem encI_lst (l : List Int) : encI l = lst (l.map fun n => .sc (.int .i64 n)) := by simp [encI, lst]
theorem all_decI (f : Int → Bool) (l : List Int) : (l.map fun n : Int => DV.sc (.int .i64 n)).all (fun x => f (decI x)) = l.all f := by
 rw [List.all_map]; rfl
def ipsOk (l : List Int) : Bool := decide (1 ≤ (l.length : Int) ∧ (l.length : Int) ≤ 4) && l.all isW
def taskOk (t : Task) : Bool :=
 decide (0 ≤ t.state ∧ t.state ≤ 1) && decide (0 ≤ t.id ∧ t.id ≤ 65535) && nameOk t.fname && tyOk t.ftype && (nameOk t.name && nameOk t.zone && underN t.name t.zone) && ipsOk t.hints && ipsOk t.servers &&
 decide (0 ≤ t.turn ∧ t.turn ≤ (t.servers.length : Int) - 1) && decide (0 ≤ t.sends ∧ t.sends ≤ 12) && decide (0 ≤ t.steps ∧ t.steps ≤ 6) && decide (0 ≤ t.code ∧ t.code ≤ 10) && rrsOk t.answers &&
 (t.state == 1 || (t.code == 0 && decide (t.sends < 12) && decide (t.steps < 6)))
def costBB (a : List (List UInt8)) : Nat := a.length + a.flatten.length
def costR (r : Rr) : Nat := costBB r.name + costBB r.to + r.text.length + r.nums.length
def costRs : List Rr → Nat
 | [] => 0
 | r :: l => costR r + costRs l
@[simp] theorem costRs_nil : costRs [] = 0 := rfl
def insideR (l : List Rr) (z : List (List UInt8)) : List Rr := l.filter fun r => underN r.name z
theorem filter_step {α : Type} (f : α → Bool) (l : List α) (i : Nat) (h : i < l.length) : (l.take (i + 1)).filter f = (l.take i).filter f ++ (if f l[i] then [l[i]] else []) := by
 rw [← List.take_append_getElem h, List.filter_append]
 congr 1
 by_cases e : f l[i] <;> simp [e]
theorem filter_yes {α : Type} {f : α → Bool} {l : List α} {i : Nat} (h : i < l.length) (e : f l[i] = true) : (l.take (i + 1)).filter f = (l.take i).filter f ++ [l[i]] := by rw [filter_step _ _ _ h, if_pos e]
theorem filter_no {α : Type} {f : α → Bool} {l : List α} {i : Nat} (h : i < l.length) (e : f l[i] = false) : (l.take (i + 1)).filter f = (l.take i).filter f := by rw [filter_step _ _ _ h, if_neg (by simp [e]), List.append_nil]
theorem filter_len {α : Type} (f : α → Bool) (l : List α) (i : Nat) : ((l.take i).filter f).length ≤ l.length := Nat.le_trans (List.length_filter_le _ _) (by simp; omega)
def cntBB (a : List (List UInt8)) : Nat := a.flatten.length
def cntR (r : Rr) : Nat := cntBB r.name + 3 + cntBB r.to + r.text.length + r.nums.length
def cntRs : List Rr → Nat
 | [] => 0
 | r :: l => cntR r + cntRs l
@[simp] theorem cntRs_nil : cntRs [] = 0 := rfl
theorem noNest_encI (b : List Int) : noNest (encI b) = true := by
 simp [noNest, encI, DV.rows, DV.isSc]
theorem src_encI (s : St) (b : List Int) : s.src (.d (encI b)) = some (true, encI b, []) := by
 show some (noNest (encI b), encI b, []) = _
 rw [noNest_encI]
theorem app_nil_encI (b : List Int) : (DV.sl 1 []).app (encI b) = encI b := by simp [DV.app, encI, DV.rows, DV.esz]
theorem len_encI (b : List Int) : (encI b).len = b.length := by simp [encI, DV.len]
structure Zone where
 origin : List (List UInt8)
 rrs : List Rr
 deriving DecidableEq
def Zone.cells (z : Zone) : List DV := [encBB z.origin, encR z.rrs]
structure SmallZ (z : Zone) : Prop where
 o : SmallBB z.origin
 r : SmallRs z.rrs
def w2 (n : Int) : List UInt8 := [u8 (sr n 8), u8 n]
def w4 (n : Int) : List UInt8 := [u8 (sr n 24), u8 (sr n 16), u8 (sr n 8), u8 n]
theorem w4_two (n : Int) : w2 (sr n 16) ++ w2 n = w4 n := by simp [w2, w4, sr_sr]
def wireL (a : List (List UInt8)) : List UInt8 := a.flatMap fun l => u8 l.length :: l
theorem wireL_take (a : List (List UInt8)) (i : Nat) (h : i < a.length) : wireL (a.take (i + 1)) = wireL (a.take i) ++ [u8 a[i].length] ++ a[i] := by
 unfold wireL
 rw [← List.take_append_getElem h, List.flatMap_append]
 simp
theorem wireL_len (a : List (List UInt8)) : (wireL a).length = a.length + a.flatten.length := by
 induction a with
 | nil => rfl
 | cons x a ih => simp only [wireL, List.flatMap_cons, List.length_append, List.length_cons, List.flatten_cons] at *; omega
theorem wireL_le (a : List (List UInt8)) (i : Nat) : (wireL (a.take i)).length ≤ a.length + a.flatten.length := by
 rw [wireL_len]
 have := flat_le a i
 simp only [List.length_take]; omega
def wireN (a : List (List UInt8)) : List UInt8 := wireL a ++ [0]
def rdata (r : Rr) : List UInt8 := if r.ty == 1 then w4 r.addr else if hasTo r.ty then wireN r.to ++ r.nums.flatMap w4 else u8 r.text.length :: r.text
def cmpI (a b : Int) : Int := if a < b then -1 else if b < a then 1 else 0
def cmpR (a b : Rr) : Int := if cmpN a.name b.name = 0 then (if cmpI a.ty b.ty = 0 then cmpB (rdata a) (rdata b) else cmpI a.ty b.ty) else cmpN a.name b.name
def setOf (l : List Rr) (n : List (List UInt8)) (t : Int) : List Rr := l.filter fun r => decide (r.name = n) && (t == 255 || r.ty == t)
section
variable {P : Program} {k : List It} {Q : Ex → St → Prop} {s : St} {d : Option Nat} {q : Bool} {r : T} {oi : Nat} {tags : List Nat}
theorem kAppRec {e bytes : Nat} {x y : X} {cx cy : AC} {dp dp' : Bool} {ids : List Nat} {id v ve : Nat} {vk : OK} {l : List Rr} {nm tn : List (List UInt8)} {ty ttl ad : Int} {tx : List UInt8} {nu : List Int} (hx : s.ev x = .c cx) (hy : s.ev y = .c cy) (hb : s.base cx = some (dp, .sl 7 (l.map Rr.cells)))
  (hs : s.src cy = some (dp', .sl 7 [[encBB nm, .sc (.int .i64 ty), .sc (.int .i64 ttl), .sc (.int .i64 ad), encBB tn, encB tx, encI nu]], ids)) (hid : cx.ownId e = id) (hob : s.ob id = ⟨v, ve, vk⟩)
  (hh : (!s.hold.contains id && ids.all (fun j => !s.hold.contains j) && !ids.contains id && notMe id cy) = true)
  (hlen : (l.length + 1) * bytes ≤ 140737488355328 ∧ l.length + 1 ≤ 9223372036854775807)
  (h : kont P (.t r tags :: k) Q .normal (((s.kill ids).setOb id ⟨v + 1, 0, .arr (dp && dp') (encR (l ++ [⟨nm, ty, ttl, ad, tn, tx, nu⟩]))⟩).put d (.c (.arr id (v + 1))))) : kont P (.t (.op oi [] d none q (.app e 7 bytes x y) r) tags :: k) Q .normal s :=
 kAppR1 (f := Rr.cells) (z := ⟨nm, ty, ttl, ad, tn, tx, nu⟩) hx hy hb hs hid hob rfl hh hlen h
end
def zeroT : Task := ⟨0, 0, [], 0, [], [], [], [], 0, 0, 0, 0, []⟩
def askT (q : List (List UInt8)) (ty : Int) (h : List Int) (id : Int) : Task := ⟨0, id, q, ty, q, [], h, h, 0, 0, 0, 0, []⟩
def beginN (q : List (List UInt8)) (ty : Int) (h : List Int) (id : Int) : Task := if taskOk (askT q ty h id) then askT q ty h id else zeroT
def orL : List Int → Int
 | [] => 0
 | x :: l => if x = 0 then orL l else x
theorem orL_drop (l : List Int) (i : Nat) (h : i < l.length) : orL (l.drop i) = if l[i] = 0 then orL (l.drop (i + 1)) else l[i] := by
 rw [List.drop_eq_getElem_cons h]; rfl
theorem w4_len (n : Int) : (w4 n).length = 4 := rfl
theorem wireN_len (a : List (List UInt8)) : (wireN a).length = a.length + a.flatten.length + 1 := by simp [wireN, wireL_len]
theorem flatMap_take {α β : Type} (f : α → List β) (l : List α) (i : Nat) (h : i < l.length) : (l.take (i + 1)).flatMap f = (l.take i).flatMap f ++ f l[i] := by
 rw [← List.take_append_getElem h, List.flatMap_append]; simp
theorem w4s_len (l : List Int) : (l.flatMap w4).length = 4 * l.length := by
 induction l with
 | nil => rfl
 | cons x l ih => simp only [List.flatMap_cons, List.length_append, ih, w4_len, List.length_cons]; omega
theorem two_nums (l : List Int) (h : l.length = 2) : l.flatMap w4 = w4 (l[0]'(by omega)) ++ w4 (l[1]'(by omega)) := by
 match l, h with
 | [x, y], _ => simp
theorem rdata_A {r : Rr} (h : r.ty = 1) : rdata r = w4 r.addr := by simp [rdata, h]
theorem rdata_to {r : Rr} (h : r.ty ≠ 1) (h2 : hasTo r.ty = true) : rdata r = wireN r.to ++ r.nums.flatMap w4 := by simp [rdata, h, h2]
theorem rdata_text {r : Rr} (h : r.ty ≠ 1) (h2 : hasTo r.ty = false) : rdata r = u8 r.text.length :: r.text := by simp [rdata, h, h2]
theorem rdata_soa {r : Rr} (hk : rrOk r = true) (h : r.ty = 6) : ∃ (h2 : (r.nums.length : Int) = 2), (0 ≤ r.nums[0]'(by omega) ∧ r.nums[0]'(by omega) < 4294967296) ∧ (0 ≤ r.nums[1]'(by omega) ∧ r.nums[1]'(by omega) ≤ 100000) ∧ rdata r = wireN r.to ++ w4 (r.nums[0]'(by omega)) ++ w4 (r.nums[1]'(by omega)) := by
 have hd : dataOk r = true := by simp only [rrOk, Bool.and_eq_true] at hk; exact hk.2
 simp only [dataOk, Bool.and_eq_true, h] at hd
 have hn : numsOk r.nums = true := by simpa using hd.1.1.1
 simp only [numsOk] at hn
 split at hn
 ·rename_i hl
  simp only [Bool.and_eq_true, isW, decide_eq_true_eq] at hn
  refine ⟨hl, hn.1, hn.2, ?_⟩
  rw [rdata_to (by omega) (by rw [h]; rfl)]
  rw [two_nums r.nums (by omega), List.append_assoc]
 ·cases hn
theorem rdata_nm {r : Rr} (hk : rrOk r = true) (h : r.ty ≠ 6) : r.nums = [] := by
 have hd : dataOk r = true := by simp only [rrOk, Bool.and_eq_true] at hk; exact hk.2
 simp only [dataOk, Bool.and_eq_true] at hd
 have h1 := hd.1.1.1
 rw [if_neg (by simpa using h)] at h1
 simpa using h1
theorem rdata_ad {r : Rr} (hk : rrOk r = true) (h : r.ty = 1) : 0 ≤ r.addr ∧ r.addr < 4294967296 := by
 have hd : dataOk r = true := by simp only [rrOk, Bool.and_eq_true] at hk; exact hk.2
 simp only [dataOk, Bool.and_eq_true, h] at hd
 have h1 := hd.1.1.2
 simpa [isW] using h1
theorem rdata_le {r : Rr} (hs : SmallR r) : (rdata r).length ≤ 33554432 := by
 have h1 := hs.t.len
 have h2 := hs.t.flat
 have h3 := hs.x
 have h4 := hs.m
 unfold rdata
 split
 ·rw [w4_len]; omega
 ·split
  ·rw [List.length_append, wireN_len, w4s_len]; omega
  ·rw [List.length_cons]; omega
theorem cmpR_or (a b : Rr) : cmpR a b = orL [cmpN a.name b.name, cmpI a.ty b.ty, cmpB (rdata a) (rdata b)] := by
 unfold cmpR orL
 by_cases h1 : cmpN a.name b.name = 0
 ·rw [if_pos h1, if_pos h1]
  unfold orL
  by_cases h2 : cmpI a.ty b.ty = 0
  ·rw [if_pos h2, if_pos h2]
   unfold orL
   split
   ·rename_i h; rw [h]; rfl
   ·rfl
  ·rw [if_neg h2, if_neg h2]
 ·rw [if_neg h1, if_neg h1]
def aloneR (l : List Rr) (i : Nat) : Bool := match l[i]? with
 | none => true
 | some r => !(r.ty == 5) || decide ((setOf l r.name 255).length ≤ 1)
theorem setOf_any (l : List Rr) (n : List (List UInt8)) : setOf l n 255 = l.filter fun r => decide (r.name = n) := by simp [setOf]
theorem filter_two {α : Type} {f : α → Bool} {l : List α} {i k : Nat} (hi : i < l.length) (hk : k < l.length) (hne : k ≠ i) (h1 : f l[i] = true) (h2 : f l[k] = true) : 2 ≤ (l.filter f).length := by
 have key : ∀ (i k : Nat) (hi : i < l.length) (hk : k < l.length), i < k → f l[i] = true → f l[k] = true → 2 ≤ (l.filter f).length := by
  intro i k hi hk hlt h1 h2
  have e := List.take_append_drop k l
  have : l.filter f = (l.take k).filter f ++ (l.drop k).filter f := by rw [← List.filter_append, e]
  rw [this, List.length_append]
  have a1 : 1 ≤ ((l.take k).filter f).length := by
   apply List.length_pos_of_mem (a := l[i])
   rw [List.mem_filter]
   refine ⟨?_, h1⟩
   have : (l.take k)[i]'(by simp; omega) = l[i] := by simp
   rw [← this]; exact List.getElem_mem _
  have a2 : 1 ≤ ((l.drop k).filter f).length := by
   apply List.length_pos_of_mem (a := l[k])
   rw [List.mem_filter]
   refine ⟨?_, h2⟩
   rw [List.drop_eq_getElem_cons hk]; exact List.mem_cons_self ..
  omega
 rcases Nat.lt_or_gt_of_ne hne with h | h
 ·exact key k i hk hi h h2 h1
 ·exact key i k hi hk h h1 h2
theorem filter_one {α : Type} {f : α → Bool} {l : List α} {i : Nat} (h : ∀ (j : Nat) (hj : j < l.length), j ≠ i → f l[j] = false) : (l.filter f).length ≤ 1 := by
 have e := List.take_append_drop i l
 have h0 : (l.take i).filter f = [] := by
  rw [List.filter_eq_nil_iff]
  intro a ha
  obtain ⟨j, hj, rfl⟩ := List.mem_iff_getElem.1 ha
  have hj' : j < l.length ∧ j < i := by simp at hj; omega
  rw [List.getElem_take]
  simp [h j hj'.1 (by omega)]
 have h1 : ((l.drop (i + 1)).filter f) = [] := by
  rw [List.filter_eq_nil_iff]
  intro a ha
  obtain ⟨j, hj, rfl⟩ := List.mem_iff_getElem.1 ha
  have hj' : i + 1 + j < l.length := by simp at hj; omega
  rw [List.getElem_drop]
  simp [h (i + 1 + j) hj' (by omega)]
 have : l.filter f = (l.take i).filter f ++ (l.drop i).filter f := by rw [← List.filter_append, e]
 rw [this, h0, List.nil_append]
 rcases Nat.lt_or_ge i l.length with hi | hi
 ·rw [List.drop_eq_getElem_cons hi, List.filter_cons]
  split
  ·rw [h1]; simp
  ·rw [h1]; simp
 ·rw [List.drop_eq_nil_of_le hi]; simp
theorem aloneR_ty {l : List Rr} {i : Nat} (hi : i < l.length) (h : l[i].ty ≠ 5) : aloneR l i = true := by
 unfold aloneR; rw [List.getElem?_eq_getElem hi]; simp [h]
theorem aloneR_no {l : List Rr} {i k : Nat} (hi : i < l.length) (h : l[i].ty = 5) (hk : k < l.length) (hne : k ≠ i) (he : l[k].name = l[i].name) : aloneR l i = false := by
 unfold aloneR; rw [List.getElem?_eq_getElem hi]
 have := filter_two (f := fun r : Rr => decide (r.name = l[i].name)) hi hk hne (by simp) (by simpa using he)
 simp only [h, setOf_any]
 simp; omega
theorem aloneR_yes {l : List Rr} {i : Nat} (hi : i < l.length) (h : ∀ (j : Nat) (hj : j < l.length), j ≠ i → l[j].name ≠ l[i].name) : aloneR l i = true := by
 unfold aloneR; rw [List.getElem?_eq_getElem hi]
 have := filter_one (f := fun r : Rr => decide (r.name = l[i].name)) (l := l) (i := i) (fun j hj hne => by simpa using h j hj hne)
 simp only [setOf_any]
 simp; right; exact this
def prevB (l : List Rr) (i : Nat) : Bool := if h : 0 < i ∧ i < l.length then decide (cmpR (l[i - 1]'(by omega)) (l[i]'(by omega)) < 0) else true
def zAt (z : Zone) (i : Nat) : Bool := if h : i < z.rrs.length then underN z.rrs[i].name z.origin && prevB z.rrs i && aloneR z.rrs i && (!(z.rrs[i].ty == 6) || decide (z.rrs[i].name = z.origin)) else true
def zTops (l : List Rr) : Int := ((l.filter fun r => r.ty == 6).length : Int)
def zoneOk (z : Zone) : Bool := nameOk z.origin && decide (z.rrs.length ≤ 60) && z.rrs.all rrOk && (List.range z.rrs.length).all (zAt z) && decide (zTops z.rrs = 1)
theorem zTops_succ (l : List Rr) (i : Nat) (h : i < l.length) : zTops (l.take (i + 1)) = zTops (l.take i) + (if l[i].ty = 6 then 1 else 0) := by
 unfold zTops
 rw [filter_step _ _ _ h]
 by_cases e : l[i].ty = 6 <;> simp [e]
theorem zTops_le (l : List Rr) (i : Nat) : 0 ≤ zTops (l.take i) ∧ zTops (l.take i) ≤ l.length := by
 unfold zTops
 have := filter_len (fun r : Rr => r.ty == 6) l i
 omega
theorem aloneR_eq {l : List Rr} {i : Nat} (h : i < l.length) : aloneR l i = (!(l[i].ty == 5) || decide ((setOf l l[i].name 255).length ≤ 1)) := by
 unfold aloneR; rw [List.getElem?_eq_getElem h]
theorem prevB_pos {l : List Rr} {i : Nat} (h0 : 0 < i) (h : i < l.length) (h' : ((i : Int) - 1).toNat < l.length) : prevB l i = decide (cmpR (l[((i : Int) - 1).toNat]) l[i] < 0) := by
 have e : ((i : Int) - 1).toNat = i - 1 := by omega
 simp only [prevB, e]
 rw [dif_pos ⟨h0, h⟩]
theorem prevB_zero {l : List Rr} : prevB l 0 = true := by simp [prevB]
theorem zAt_eq {z : Zone} {i : Nat} (h : i < z.rrs.length) : zAt z i = (underN z.rrs[i].name z.origin && prevB z.rrs i && aloneR z.rrs i && (!(z.rrs[i].ty == 6) || decide (z.rrs[i].name = z.origin))) := by
 unfold zAt; rw [dif_pos h]
theorem zone_no {z : Zone} {i : Nat} (h : i < z.rrs.length) (hz : zAt z i = false) : zoneOk z = false := by
 unfold zoneOk
 have : (List.range z.rrs.length).all (zAt z) = false := by
  rw [List.all_eq_false]; exact ⟨i, List.mem_range.2 h, by simp [hz]⟩
 rw [this]; simp
theorem range_all {f : Nat → Bool} {i : Nat} (h : (List.range i).all f = true) (h2 : f i = true) : (List.range (i + 1)).all f = true := by
 rw [List.range_succ, List.all_append, h]; simp [h2]
def topR (o : List (List UInt8)) (s : Int) : Rr := ⟨o, 6, 60, 0, o, [], [s, 60]⟩
def newZ (o : List (List UInt8)) (s : Int) : Zone := ⟨o, [topR o s]⟩
def zeroZ : Zone := ⟨[], []⟩
def zoneNewN (o : List (List UInt8)) (s : Int) : Zone := if zoneOk (newZ o s) then newZ o s else zeroZ
theorem SmallZ.zero : SmallZ zeroZ := ⟨.nil, ⟨Nat.zero_le _, nofun⟩⟩
theorem SmallZ.top {o : List (List UInt8)} (s : Int) (h : SmallBB o) : SmallZ (newZ o s) := ⟨h, ⟨by simp [newZ], fun r hr => by
 simp only [newZ, List.mem_singleton] at hr
 subst hr
 exact ⟨h, h, by simp [topR], by simp [topR]⟩⟩⟩
theorem SmallRs.filter {l : List Rr} (h : SmallRs l) (f : Rr → Bool) : SmallRs (l.filter f) := ⟨Nat.le_trans (List.length_filter_le _ _) h.len, fun r hr => h.mem r (List.mem_filter.1 hr).1⟩
theorem SmallRs.nil : SmallRs [] := ⟨Nat.zero_le _, nofun⟩
def keptR (z : Zone) (f : Rr → Bool) : Zone := ⟨z.origin, z.rrs.filter f⟩
theorem SmallZ.kept {z : Zone} (h : SmallZ z) (f : Rr → Bool) : SmallZ (keptR z f) := ⟨h.o, h.r.filter f⟩
def setN (z : Zone) (n : List (List UInt8)) (t : Int) : List Rr := if zoneOk z && nameOk n then setOf z.rrs n t else []
def askedT (t : Int) : Bool := tyOk t || t == 255
theorem cmpI_zero {a b : Int} : cmpI a b = 0 ↔ a = b := by
 unfold cmpI
 constructor
 ·intro h; split at h
  ·omega
  ·split at h <;> omega
 ·rintro rfl; simp
theorem cmpR_zero {a b : Rr} (h : cmpR a b = 0) : a.name = b.name ∧ a.ty = b.ty := by
 unfold cmpR at h
 by_cases h1 : cmpN a.name b.name = 0
 ·rw [if_pos h1] at h
  by_cases h2 : cmpI a.ty b.ty = 0
  ·have := cmpN_zero a.name b.name
   rw [h1] at this
   exact ⟨by simpa using this.symm, cmpI_zero.1 h2⟩
  ·rw [if_neg h2] at h; exact absurd h h2
 ·rw [if_neg h1] at h; exact absurd h h1
structure Evt where
 kind : Int
 bytes : List UInt8
 ip : Int
 client : List UInt8
 host : List UInt8
 at_ : Int
 lost : List Bool
 deriving DecidableEq
def Evt.cells (e : Evt) : List DV := [.sc (.int .i64 e.kind), encB e.bytes, .sc (.int .i64 e.ip), encB e.client, encB e.host, .sc (.int .i64 e.at_), encBo e.lost]
def TxP (k ip cl hl lb w : Int) : Prop :=
 (k = 1 ∧ 167772161 ≤ ip ∧ ip ≤ 167772414 ∧ 1 ≤ cl ∧ cl ≤ 16 ∧ lb = 1 ∧ 0 ≤ w ∧ w ≤ 2000000) ∨ (k = 2 ∧ 167772161 ≤ ip ∧ ip ≤ 167772414 ∧ 1 ≤ cl ∧ cl ≤ 16 ∧ hl = 0 ∧ w = 0) ∨ (k = 3 ∧ ip = 0 ∧ cl = 0 ∧ hl = 0 ∧ 0 ≤ w ∧ w ≤ 1000000)
instance (k ip cl hl lb w : Int) : Decidable (TxP k ip cl hl lb w) := by unfold TxP; infer_instance
def EvP (k ip cl hl lb w bl ll : Int) : Prop :=
 (k = 0 ∨ (bl = 0 ∧ ll = 0)) ∧ (TxP k ip cl hl lb w ∨ (ip = 0 ∧ cl = 0 ∧ hl = 0 ∧ ((k = 0 ∧ bl ≤ 512 ∧ ll ≤ 24 ∧ w = 0) ∨ (k = 4 ∧ 0 ≤ w ∧ w ≤ 60) ∨ (k = 5 ∧ w = 0))))
instance (k ip cl hl lb w bl ll : Int) : Decidable (EvP k ip cl hl lb w bl ll) := by unfold EvP; infer_instance
def emptyR : Rr := ⟨[], 0, 0, 0, [], [], []⟩
theorem cmpN_iff (a b : List (List UInt8)) : cmpN a b = 0 ↔ a = b := by simp [cmpN, cmpL_zero, List.reverse_inj]
theorem zone_rrs {z : Zone} (h : zoneOk z = true) : ∀ r ∈ z.rrs, rrOk r = true := by
 unfold zoneOk at h
 simp only [Bool.and_eq_true] at h
 exact List.all_eq_true.1 h.1.1.2
def refAt (z : Zone) (n : List (List UInt8)) : Nat → Option (List (List UInt8))
 | 0 => none
 | k + 1 => if 0 < (setOf z.rrs (n.drop k) 2).length then some (n.drop k) else refAt z n k
def hasN (z : Zone) (n : List (List UInt8)) : Bool := z.rrs.any fun r => underN r.name n
def lookupN (z : Zone) (n : List (List UInt8)) (t : Int) : List Rr × Int :=
 if underN n z.origin then
  match refAt z n (n.length - z.origin.length) with
  | some m => (setOf z.rrs m 2, 2)
  | none => if 0 < (setOf z.rrs n t).length then (setOf z.rrs n t, 0) else if 0 < (setOf z.rrs n 5).length then (setOf z.rrs n 5, 1) else ([], if hasN z n then 3 else 4)
 else ([], 5)
theorem lookup_out {z : Zone} {n : List (List UInt8)} {t : Int} (h : underN n z.origin = false) : lookupN z n t = ([], 5) := by unfold lookupN; rw [if_neg (by simp [h])]
theorem lookup_ref {z : Zone} {n m : List (List UInt8)} {t : Int} (h : underN n z.origin = true) (hr : refAt z n (n.length - z.origin.length) = some m) : lookupN z n t = (setOf z.rrs m 2, 2) := by unfold lookupN; rw [if_pos h, hr]
theorem lookup_none {z : Zone} {n : List (List UInt8)} {t : Int} (h : underN n z.origin = true) (hr : refAt z n (n.length - z.origin.length) = none) :
  lookupN z n t = if 0 < (setOf z.rrs n t).length then (setOf z.rrs n t, 0) else if 0 < (setOf z.rrs n 5).length then (setOf z.rrs n 5, 1) else ([], if hasN z n then 3 else 4) := by unfold lookupN; rw [if_pos h, hr]
theorem under_le {n z : List (List UInt8)} (h : underN n z = true) : z.length ≤ n.length := by
 unfold underN at h; simp only [Bool.and_eq_true, decide_eq_true_eq] at h; exact h.1
def lookN (z : Zone) (n : List (List UInt8)) (t : Int) : List Rr × Int := if zoneOk z && nameOk n && askedT t then lookupN z n t else ([], 5)
theorem lookup_filter (z : Zone) (n : List (List UInt8)) (t : Int) : ∃ f, (lookupN z n t).1 = z.rrs.filter f := by
 have hno : ∃ f : Rr → Bool, ([] : List Rr) = z.rrs.filter f := ⟨fun _ => false, by simp⟩
 unfold lookupN
 split
 ·split
  ·exact ⟨_, rfl⟩
  ·split
   ·exact ⟨_, rfl⟩
   ·split
    ·exact ⟨_, rfl⟩
    ·exact hno
 ·exact hno
theorem cmpB_iff (a b : List UInt8) : cmpB a b = 0 ↔ a = b := by
 have := cmpB_zero a b
 rw [Bool.eq_iff_iff] at this
 simpa using this
theorem cmpR_iff (a b : Rr) : cmpR a b = 0 ↔ a.name = b.name ∧ a.ty = b.ty ∧ rdata a = rdata b := by
 constructor
 ·intro h
  have h1 := cmpR_zero h
  refine ⟨h1.1, h1.2, ?_⟩
  unfold cmpR at h
  rw [if_pos ((cmpN_iff _ _).2 h1.1), if_pos (cmpI_zero.2 h1.2)] at h
  exact (cmpB_iff _ _).1 h
 ·rintro ⟨h1, h2, h3⟩
  unfold cmpR
  rw [if_pos ((cmpN_iff _ _).2 h1), if_pos (cmpI_zero.2 h2)]
  exact (cmpB_iff _ _).2 h3
theorem idx_le {α : Type} (g : α → Bool) (l : List α) : -1 ≤ idx g l ∧ idx g l ≤ l.length := by
 unfold idx
 cases h : l.findIdx? g with
 | none => simp only; omega
 | some i =>
  rw [List.findIdx?_eq_some_iff_getElem] at h
  obtain ⟨h1, _⟩ := h
  simp only; omega
structure Qn where
 name : List (List UInt8)
 ty : Int
 deriving DecidableEq
def Qn.cells (q : Qn) : List DV := [encBB q.name, .sc (.int .i64 q.ty)]
def encQ (l : List Qn) : DV := .sl 2 (l.map Qn.cells)
structure SmallQs (l : List Qn) : Prop where
 len : l.length ≤ 4194304
 mem : ∀ q ∈ l, SmallBB q.name
def cntQ1 (q : Qn) : Nat := q.name.flatten.length + 1
def cntQs : List Qn → Nat
 | [] => 0
 | r :: l => cntQ1 r + cntQs l
@[simp] theorem cntQs_nil : cntQs [] = 0 := rfl
def nilW : DV := .sl 9 []
def askOk (t : Task) : Bool := taskOk t && !(t.state == 1)
def askIp (t : Task) : Int := if askOk t then t.servers.getD t.turn.toNat 0 else 0
def askId (t : Task) : Int := if askOk t then t.id else 0
def askQs (t : Task) : List Qn := if askOk t then [⟨t.name, t.ftype⟩] else []
theorem task_turn {t : Task} (h : taskOk t = true) : 0 ≤ t.turn ∧ t.turn ≤ (t.servers.length : Int) - 1 := by
 unfold taskOk at h
 simp only [Bool.and_eq_true, decide_eq_true_eq] at h
 exact h.1.1.1.1.1.2
def topIx (l : List Rr) : Int := idx (fun r => r.ty == 6) l
theorem topIx_lt {z : Zone} (h : zoneOk z = true) : 0 ≤ topIx z.rrs ∧ topIx z.rrs < z.rrs.length := by
 unfold zoneOk at h
 simp only [Bool.and_eq_true, decide_eq_true_eq] at h
 have ht := h.2
 unfold zTops at ht
 unfold topIx idx
 cases hf : z.rrs.findIdx? (fun r => r.ty == 6) with
 | none =>
  rw [List.findIdx?_eq_none_iff] at hf
  have : z.rrs.filter (fun r => r.ty == 6) = [] := by
   rw [List.filter_eq_nil_iff]; intro a ha; simp [hf a ha]
  rw [this] at ht
  simp at ht
 | some i =>
  rw [List.findIdx?_eq_some_iff_getElem] at hf
  obtain ⟨h1, _⟩ := hf
  simp only
  omega
end Hearth

/- A map literal of numbers and strings, and what is looked up in it. -/
namespace Hearth
open Go Go.RowKit
abbrev BelowD (B : Nat) (w w' : World) : Prop := Below B w w' ∧ w.drawn ≤ w'.drawn
def Tab (w : World) (r : Nat) (l : List (Int × ByteArray)) : Prop :=
 ∃ (es : Array MapEntry) (clock : Nat), w.heap[r]? = some (.map es clock) ∧ es.toList.map (fun e => (e.key, e.val)) = l.map fun e => (Value.int .i64 e.1, Value.string e.2)
theorem findNow_tab (n : Int) : ∀ (es : List MapEntry) (l : List (Int × ByteArray)) (i : Nat), es.map (fun e => (e.key, e.val)) = l.map (fun e => (Value.int .i64 e.1, Value.string e.2)) →
  ∃ j, Instr.findNow (.int .i64) (.int .i64 n) es i = some ((l.find? fun e => n == e.1).map fun e => (j, Value.string e.2))
 | [], [], i, _ => ⟨0, rfl⟩
 | [], _ :: _, i, h => by simp at h
 | _ :: _, [], i, h => by simp at h
 | e :: es, x :: l, i, h => by
  simp only [List.map_cons, List.cons.injEq, Prod.mk.injEq] at h
  obtain ⟨⟨h1, h2⟩, h3⟩ := h
  simp only [Instr.findNow, h1, Instr.sameNow, if_true, List.find?_cons, h2]
  by_cases hn : n = x.1
  ·subst hn; exact ⟨i, by simp⟩
  ·have : (n == x.1) = false := by simpa using hn
   rw [this]
   exact findNow_tab n es l (i + 1) h3
section
variable {P : Program} {w : World} {t kt et : TypeId} {r : Nat} {n : Int} {l : List (Int × ByteArray)}
theorem run_insert {b : ByteArray} (ht : P.underlying t = some (.map kt et)) (hkt : P.underlying kt = some (.int .i64)) (hT : Tab w r l) (hf : l.find? (fun e => n == e.1) = none) :
  ∃ w', (Instr.mapUpdate t (.map (some r)) (.int .i64 n) (.string b)).run P w = .ok () w' ∧ Tab w' r (l ++ [(n, b)]) ∧ Ext w w' (fun b => b = r) := by
 obtain ⟨es, clock, hb, he⟩ := hT
 obtain ⟨j, hj⟩ := findNow_tab n es.toList l 0 he
 rw [hf] at hj
 have hc : (Instr.checkKey false 10000 kt (.int .i64 n)).run P w = .ok () w := MapKept.run_checkKey (k := .int .i64 n) hkt (by simp [MapKept.IsKey]) false 9999
 have hs := MapKept.heap_set (o' := .map (es.push { key := .int .i64 n, val := .string b, born := clock }) (clock + 1)) hb
 refine ⟨{ w with heap := w.heap.setIfInBounds r (.map (es.push { key := .int .i64 n, val := .string b, born := clock }) (clock + 1)) }, ?_, ⟨_, _, hs.1, by simp [he]⟩, ⟨rfl, rfl, rfl, by simp, fun c _ hc => hs.2 c hc, Nat.le_refl _⟩⟩
 simp [Instr.mapUpdate, run_underlying ht, MapKept.run_getObj_map hb, hc, MapKept.run_findKey hkt hj, MapKept.run_setObj_map _ hb, Result.andThen]
theorem run_find (ht : P.underlying t = some (.map kt et)) (hkt : P.underlying kt = some (.int .i64)) (hz : (zeroValue et).run P w = .ok (.string ByteArray.empty) w) (hT : Tab w r l) :
  (Instr.lookup t (.map (some r)) (.int .i64 n) false).run P w = .ok (.string (((l.find? fun e => n == e.1).map (·.2)).getD ByteArray.empty)) w := by
 obtain ⟨es, clock, hb, he⟩ := hT
 obtain ⟨j, hj⟩ := findNow_tab n es.toList l 0 he
 have hc : (Instr.checkKey es.isEmpty 10000 kt (.int .i64 n)).run P w = .ok () w := MapKept.run_checkKey (k := .int .i64 n) hkt (by simp [MapKept.IsKey]) _ 9999
 cases hfi : l.find? (fun e => n == e.1) with
 | none =>
  rw [hfi] at hj
  simp [Instr.lookup, run_underlying ht, MapKept.run_getObj_map hb, hc, MapKept.run_findKey hkt hj, Result.andThen, hz]
 | some e =>
  rw [hfi] at hj
  simp [Instr.lookup, run_underlying ht, MapKept.run_getObj_map hb, hc, MapKept.run_findKey hkt hj, Result.andThen]
theorem upon_insert {b : ByteArray} {o : Oper} {a : Act} {K : Act → World → Prop} {Q : Exit → Act → World → Prop} {f : Unit → World → Result Next} (ht : P.underlying t = some (.map kt et)) (hkt : P.underlying kt = some (.int .i64)) (hT : Tab w r l) (hf : l.find? (fun e => n == e.1) = none)
  (h : ∀ w', Tab w' r (l ++ [(n, b)]) → Ext w w' (fun b => b = r) → Oper.upon P o a K Q (f () w')) : Oper.upon P o a K Q (((Instr.mapUpdate t (.map (some r)) (.int .i64 n) (.string b)).run P w).andThen f) := by
 obtain ⟨w', h1, h2, h3⟩ := run_insert (b := b) ht hkt hT hf
 rw [h1]
 exact h w' h2 h3
theorem upon_find {o : Oper} {a : Act} {K : Act → World → Prop} {Q : Exit → Act → World → Prop} {f : Value → World → Result Next} (ht : P.underlying t = some (.map kt et)) (hkt : P.underlying kt = some (.int .i64)) (hz : (zeroValue et).run P w = .ok (.string ByteArray.empty) w) (hT : Tab w r l)
  (h : Oper.upon P o a K Q (f (.string (((l.find? fun e => n == e.1).map (·.2)).getD ByteArray.empty)) w)) : Oper.upon P o a K Q (((Instr.lookup t (.map (some r)) (.int .i64 n) false).run P w).andThen f) := by
 rw [run_find ht hkt hz hT]
 exact h
end
theorem FnOK.ofWalk {P : Program} {f : FuncId} {fn : Func} (hf : P.funcs[f]? = some fn) (hb : fn.body.isSome = true) (hname : (fn.name == "runtime.NumGoroutine") = false) {n : Int} {b : ByteArray}
  (h : ∀ w : World, Calls P f #[.int .i64 n] w fun e w' => e = .returned (.string b) ∧ BelowD w.heap.size w w') : FnOK P f [.one (.d (.sc (.int .i64 n)))] (fun ra _ => ra = [.one (.d (.sc (.string b)))]) := by
 refine ⟨⟨fn, hf, hb, hname⟩, fun w S Fs vs hs hv _ _ _ hF => ?_⟩
 have hs1 : vs.size = 1 := hs
 have hp : Pers w S (.sc (.int .i64 n)) vs[0] := hv 0 _ vs[0] rfl (Array.getElem?_eq_getElem (by omega))
 have key : ∀ {x : DV} {u : Value}, Pers w S x u → x = .sc (.int .i64 n) → u = .int .i64 n := by
  intro x u hp hx
  cases hp with
  | sc _ _ => cases hx; rfl
  | emp _ _ _ => cases hx
  | sl _ _ _ _ _ _ _ _ _ _ _ _ => cases hx
 have hvs : vs = #[.int .i64 n] := by
  apply Array.ext
  ·simpa using hs1
  ·intro i h1 h2
   have : i = 0 := by omega
   subst this
   exact key hp rfl
 rw [hvs]
 refine (h w).mono fun e w' h => ?_
 obtain ⟨rfl, hbel⟩ := h
 have hno : ∀ q b, ¬ Fs q b := by
  intro q b hq
  rcases hF q b hq with ⟨g, dp, x, hg | ⟨cs, hg⟩⟩
  all_goals
   simp only [gaAt] at hg
   cases hq64 : q / 64 with
   | zero =>
    rw [hq64] at hg
    simp [GA.at] at hg
   | succ k => rw [hq64] at hg; simp at hg
 refine ⟨.string b, [.one (.d (.sc (.string b)))], ⟨fun _ => .sl 0 [], fun _ => []⟩, fun _ _ => False, rfl, rfl, ⟨hbel.1.os, hbel.1.tape, hbel.1.output, hbel.1.size, fun k hk _ => hbel.1.block k hk, hbel.2⟩, ⟨by simp, by simp, by simp⟩, ⟨#[.string b], rfl, rfl, fun t a u ha hu => ?_⟩, fun t k g v p u hg hv hp hu => ?_⟩
 ·cases t with
  | zero => simp at ha hu; subst ha; subst hu; exact .sc _ rfl
  | succ t => simp at ha
 ·cases t with
  | zero =>
   simp at hg; subst hg
   simp only [GA.at] at hp
   split at hp
   ·simp at hp; subst hp; trivial
   ·simp at hp
  | succ t => simp at hg
end Hearth

/- Bytes compared by an entry of the model's own. -/
namespace Hearth
open Go Go.RowKit
def Rd (P : Program) (w : World) (v : Value) (l : List UInt8) : Prop := (Extern.Bytes.bytesOf v).run P w = .ok ⟨l.toArray⟩ w
theorem run_ldB {P : Program} (w : World) : ∀ (l : List UInt8) (a : Addr) (acc : ByteArray), (∀ j x, l[j]? = some x → w.cell? (a.add j) = some (.int .u8 x.toNat)) →
  (Extern.Bytes.loadBytes a l.length acc).run P w = .ok ⟨acc.data ++ l.toArray⟩ w
 | [], a, acc, _ => by simp [Extern.Bytes.loadBytes]
 | x :: l, a, acc, h => by
  have h0 : w.cell? a = some (.int .u8 x.toNat) := by
   have := h 0 x rfl
   simpa [Addr.add] using this
  have ih := run_ldB (P := P) w l (a.add 1) (acc.push x) (fun j y hy => by
   have := h (j + 1) y (by simpa using hy)
   have e : (a.add 1).add j = a.add (j + 1) := by
    unfold Addr.add
    by_cases hj : j = 0
    ·subst hj; simp
    ·simp [hj]; omega
   rw [e]; exact this)
  have hx : ((x.toNat : Int).toNat).toUInt8 = x := by simp
  simp only [List.length_cons, Extern.Bytes.loadBytes, Sem.run_bind, run_load, h0, Result.andThen, hx]
  rw [ih]
  congr 1
  apply ByteArray.ext
  simp [ByteArray.push]
theorem Rd.of {P : Program} {w : World} {S : Nat → Prop} {l : List UInt8} {v : Value} (hv : Pers w S (encB l) v) : Rd P w v l := by
 have hlen : (encB l).len = l.length := by simp [encB, DV.len]
 obtain ⟨A, c, rfl, _⟩ := hv.slice rfl
 rw [hlen]
 by_cases hl0 : l = []
 ·subst hl0
  cases A <;> rfl
 ·have hpos : 0 < l.length := by cases l <;> simp_all
  obtain ⟨_, b, off, rfl, _⟩ := hv.rowAt (i := 0) rfl (by rw [hlen]; exact hpos)
  unfold Rd
  simp only [Extern.Bytes.bytesOf]
  rw [run_ldB]
  ·simp [ByteArray.empty, ByteArray.emptyWithCapacity] <;> rfl
  ·intro j x hj
   have hi : j < l.length := (List.getElem?_eq_some_iff.1 hj).1
   have hx : l[j] = x := (List.getElem?_eq_some_iff.1 hj).2
   obtain ⟨_, b', off', hA, _, _, hc⟩ := hv.rowAt (i := j) rfl (by rw [hlen]; exact hi)
   simp at hA
   obtain ⟨rfl, rfl⟩ := hA
   have hrow : (encB l).row j = [.sc (.int .u8 (l[j]).toNat)] := by
    unfold DV.row encB DV.rows
    rw [List.getD_eq_getElem?_getD, List.getElem?_map, List.getElem?_eq_getElem hi]
    rfl
   obtain ⟨u, h1, h2⟩ := hc 0 (.sc (.int .u8 (l[j]).toNat)) (by rw [hrow]; rfl)
   simp [encB, DV.esz] at h1
   have ha : (⟨b, off, none⟩ : Addr).add j = ⟨b, off + j, none⟩ := by
    unfold Addr.add
    by_cases hj0 : j = 0 <;> simp [hj0]
   rw [ha, h1, Pers.scEq h2, hx]
def cmpRec : List UInt8 → List UInt8 → Int
 | [], [] => 0
 | [], _ :: _ => -1
 | _ :: _, [] => 1
 | x :: xs, y :: ys => if x = y then cmpRec xs ys else if x < y then -1 else 1
theorem bytesLess_cons (x y : UInt8) (xs ys : List UInt8) : Op.bytesLess (x :: xs) (y :: ys) = (decide (x < y) || (x == y && Op.bytesLess xs ys)) := rfl
theorem cmpB_rec : ∀ a b : List UInt8, cmpB a b = cmpRec a b
 | [], [] => rfl
 | [], _ :: _ => rfl
 | _ :: _, [] => by simp [cmpB, cmpRec, Op.bytesLess]
 | x :: xs, y :: ys => by
  have ih := cmpB_rec xs ys
  unfold cmpRec
  by_cases h : x = y
  ·subst h
   rw [if_pos rfl, ← ih]
   have : ¬ x < x := by simp
   simp [cmpB, bytesLess_cons, this]
  ·rw [if_neg h]
   by_cases hl : x < y
   ·simp [cmpB, bytesLess_cons, hl]
   ·simp [cmpB, bytesLess_cons, hl, h]
def cmpIx (a b : List UInt8) : Int :=
 match (List.range (min a.length b.length)).find? fun i => a[i]! != b[i]! with
 | some i => if a[i]! < b[i]! then -1 else 1
 | none => if a.length < b.length then -1 else if a.length > b.length then 1 else 0
theorem cmpIx_rec : ∀ a b : List UInt8, cmpIx a b = cmpRec a b
 | [], [] => rfl
 | [], y :: ys => by simp [cmpIx, cmpRec]
 | x :: xs, [] => by simp [cmpIx, cmpRec]
 | x :: xs, y :: ys => by
  have ih := cmpIx_rec xs ys
  unfold cmpRec
  rw [← ih]
  unfold cmpIx
  have hm : min (x :: xs).length (y :: ys).length = min xs.length ys.length + 1 := by simp only [List.length_cons]; omega
  rw [hm, List.range_succ_eq_map, List.find?_cons]
  by_cases h : x = y
  ·subst h
   simp only [List.getElem!_cons_zero, bne_self_eq_false, List.find?_map, if_true]
   simp only [Function.comp_def, List.getElem!_cons_succ]
   cases (List.range (min xs.length ys.length)).find? (fun i => xs[i]! != ys[i]!) with
   | none => simp
   | some i => simp
  ·have hne : (x != y) = true := by simpa using h
   simp only [List.getElem!_cons_zero, hne, if_neg h]
theorem cmp_lists (a b : List UInt8) : Extern.BytealgCompare.cmp ⟨a.toArray⟩ ⟨b.toArray⟩ = cmpB a b := by
 rw [cmpB_rec, ← cmpIx_rec]
 unfold Extern.BytealgCompare.cmp cmpIx
 have hg : ∀ (l : List UInt8) (i : Nat), (⟨l.toArray⟩ : ByteArray)[i]! = l[i]! := by
  intro l i
  by_cases h : i < l.length
  ·rw [getElem!_pos (⟨l.toArray⟩ : ByteArray) i (by simpa [ByteArray.size] using h), getElem!_pos l i h]
   rfl
  ·rw [getElem!_neg (⟨l.toArray⟩ : ByteArray) i (by simpa [ByteArray.size] using h), getElem!_neg l i h]
 have hs : ∀ l : List UInt8, (⟨l.toArray⟩ : ByteArray).size = l.length := fun l => by simp [ByteArray.size]
 simp only [hg, hs]
 rfl
theorem run_compare {P : Program} {f : FuncId} {fn : Func} {w : World} {va vb : Value} {a b : List UInt8} (hf : P.funcs[f]? = some fn) (hname : (fn.name == "runtime.NumGoroutine") = false) (hb : fn.body.isNone = true) (hn : Extern.findNext fn = none)
  (he : Extern.find fn = some Extern.BytealgCompare.compare) (ha : Rd P w va a) (hb' : Rd P w vb b) : (callFunc f #[va, vb]).run P w = .ok (.value (.int .i64 (cmpB a b))) w := by
 rw [run_callFunc_extern hf hname hb hn he]
 have : (Extern.BytealgCompare.compare #[va, vb]).run P w = .ok (.int .i64 (cmpB a b)) w := by
  unfold Rd at ha hb'
  change Sem.run P (do pure (goInt (Extern.BytealgCompare.cmp (← Extern.Bytes.bytesOf va) (← Extern.Bytes.bytesOf vb)))) w = _
  simp only [Sem.run_bind, Sem.run_pure, ha, hb', Result.andThen, cmp_lists]
  rfl
 rw [this]
 rfl
theorem FnOK.ofWalkB {P : Program} {f : FuncId} {fn : Func} (hf : P.funcs[f]? = some fn) (hb : fn.body.isSome = true) (hname : (fn.name == "runtime.NumGoroutine") = false) {a b : List UInt8} {n : Int}
  (h : ∀ (w : World) (va vb : Value), Rd P w va a → Rd P w vb b → Calls P f #[va, vb] w fun e w' => e = .returned (.int .i64 n) ∧ BelowD w.heap.size w w') : FnOK P f [.one (.d (encB a)), .one (.d (encB b))] (fun ra _ => ra = [.one (.d (.sc (.int .i64 n)))]) := by
 refine ⟨⟨fn, hf, hb, hname⟩, fun w S Fs vs hs hv _ _ _ hF => ?_⟩
 have hs1 : vs.size = 2 := hs
 have hp0 : Rd P w vs[0] a := Rd.of (hv 0 _ vs[0] rfl (Array.getElem?_eq_getElem (by omega)))
 have hp1 : Rd P w vs[1] b := Rd.of (hv 1 _ vs[1] rfl (Array.getElem?_eq_getElem (by omega)))
 have hvs : vs = #[vs[0], vs[1]] := by
  apply Array.ext
  ·simpa using hs1
  ·intro i h1 h2
   match i with
   | 0 => rfl
   | 1 => rfl
   | i + 2 => omega
 rw [hvs]
 refine (h w _ _ hp0 hp1).mono fun e w' h => ?_
 obtain ⟨rfl, hbel⟩ := h
 have hno : ∀ q b, ¬ Fs q b := by
  intro q b hq
  rcases hF q b hq with ⟨g, dp, x, hg | ⟨cs, hg⟩⟩
  all_goals
   simp only [gaAt] at hg
   match hq64 : q / 64 with
   | 0 => rw [hq64] at hg; simp [GA.at] at hg
   | 1 => rw [hq64] at hg; simp [GA.at] at hg
   | k + 2 => rw [hq64] at hg; simp at hg
 refine ⟨.int .i64 n, [.one (.d (.sc (.int .i64 n)))], ⟨fun _ => .sl 0 [], fun _ => []⟩, fun _ _ => False, rfl, rfl, ⟨hbel.1.os, hbel.1.tape, hbel.1.output, hbel.1.size, fun k hk _ => hbel.1.block k hk, hbel.2⟩, ⟨by simp, by simp, by simp⟩, ⟨#[.int .i64 n], rfl, rfl, fun t a u ha hu => ?_⟩, fun t k g v p u hg hv hp hu => ?_⟩
 ·cases t with
  | zero => simp at ha hu; subst ha; subst hu; exact .sc _ rfl
  | succ t => simp at ha
 ·match t with
  | 0 =>
   simp at hg; subst hg
   simp only [GA.at] at hp
   split at hp
   ·simp at hp; subst hp; trivial
   ·simp at hp
  | 1 =>
   simp at hg; subst hg
   simp only [GA.at] at hp
   split at hp
   ·simp at hp; subst hp; trivial
   ·simp at hp
  | t + 2 => simp at hg
end Hearth

/- More of the program's records, as data: slots, caches, leases, houses, wants, messages, transactions. -/
namespace Hearth
open Go
section
variable {α : Type}
def encL (sz : Nat) (f : α → List DV) (l : List α) : DV := .sl sz (l.map f)
def cntL (c : α → Nat) : List α → Nat
 | [] => 0
 | r :: l => c r + cntL c l
variable (c : α → Nat) (m : α → Int → α)
@[simp] theorem cntL_nil : cntL c [] = 0 := rfl
end
structure Slot where
 name : List (List UInt8)
 ty : Int
 kind : Int
 rrs : List Rr
 rank : Int
 til : Int
 used : Int
 deriving DecidableEq
def Slot.cells (s : Slot) : List DV := [encBB s.name, .sc (.int .i64 s.ty), .sc (.int .i64 s.kind), encR s.rrs, .sc (.int .i64 s.rank), .sc (.int .i64 s.til), .sc (.int .i64 s.used)]
abbrev encS (l : List Slot) : DV := encL 7 Slot.cells l
structure SmallS (s : Slot) : Prop where
 n : SmallBB s.name
 r : SmallRs s.rrs
structure SmallSs (l : List Slot) : Prop where
 len : l.length ≤ 4194304
 mem : ∀ s ∈ l, SmallS s
structure Cache where
 now : Int
 turn : Int
 slots : List Slot
 deriving DecidableEq
def Cache.cells (c : Cache) : List DV := [.sc (.int .i64 c.now), .sc (.int .i64 c.turn), encS c.slots]
def setAt (l : List Rr) (i : Nat) : Bool := if h : i < l.length then decide (l[i].name = (l[0]'(by omega)).name) && decide (l[i].ty = (l[0]'(by omega)).ty) && decide (l[i].ttl = (l[0]'(by omega)).ttl) && prevB l i else true
def isSetR (l : List Rr) : Bool := decide (0 < l.length) && rrsOk l && (List.range l.length).all (setAt l)
def cmpS (a b : Slot) : Int := if cmpN a.name b.name = 0 then cmpI a.ty b.ty else cmpN a.name b.name
def hitOk (s : Slot) : Bool := if s.kind = 1 then isSetR s.rrs && decide ((s.rrs.getD 0 emptyR).name = s.name) && decide ((s.rrs.getD 0 emptyR).ty = s.ty) else decide (s.rrs.length = 0)
def slotOk (now turn : Int) (s : Slot) : Bool :=
 nameOk s.name && tyOk s.ty && decide (1 ≤ s.kind ∧ s.kind ≤ 3) && decide (0 ≤ s.rank ∧ s.rank ≤ 3) && decide (now + 1 ≤ s.til ∧ s.til ≤ now + 1000) && decide (1 ≤ s.used ∧ s.used ≤ turn) && hitOk s
def prevS (l : List Slot) (i : Nat) : Bool := if h : 0 < i ∧ i < l.length then decide (cmpS (l[i - 1]'(by omega)) (l[i]'(by omega)) < 0) else true
def sAt (l : List Slot) (i : Nat) : Bool := if h : i < l.length then prevS l i && !((l.take i).any fun o => o.used == l[i].used) else true
def cacheOk (c : Cache) : Bool := decide (0 ≤ c.now ∧ c.now ≤ 1000000) && decide (0 ≤ c.turn ∧ c.turn ≤ 1000000) && decide (c.slots.length ≤ 8) && c.slots.all (slotOk c.now c.turn) && (List.range c.slots.length).all (sAt c.slots)
def nmStep (out : List (List (List UInt8))) (s : Slot) : List (List (List UInt8)) := if out.getLast? = some s.name then out else out ++ [s.name]
def namesS (l : List Slot) : List (List (List UInt8)) := l.foldl nmStep []
theorem nmStep_len (out : List (List (List UInt8))) (s : Slot) : (nmStep out s).length ≤ out.length + 1 := by
 unfold nmStep; split <;> simp
theorem namesS_len (l : List Slot) : (namesS l).length ≤ l.length := by
 have key : ∀ (l : List Slot) (out : List (List (List UInt8))), (l.foldl nmStep out).length ≤ out.length + l.length := by
  intro l
  induction l with
  | nil => intro out; simp
  | cons s l ih => intro out; have := ih (nmStep out s); have := nmStep_len out s; simp only [List.foldl_cons, List.length_cons]; omega
 have := key l []
 simpa [namesS] using this
theorem namesS_mem (l : List Slot) : ∀ n ∈ namesS l, ∃ s ∈ l, s.name = n := by
 have key : ∀ (l : List Slot) (out : List (List (List UInt8))), ∀ n ∈ l.foldl nmStep out, n ∈ out ∨ ∃ s ∈ l, s.name = n := by
  intro l
  induction l with
  | nil => intro out n hn; exact .inl hn
  | cons s l ih =>
   intro out n hn
   rcases ih _ n hn with h | ⟨s', h1, h2⟩
   ·unfold nmStep at h
    split at h
    ·exact .inl h
    ·rcases List.mem_append.1 h with h | h
     ·exact .inl h
     ·simp at h; exact .inr ⟨s, List.mem_cons_self .., h.symm⟩
   ·exact .inr ⟨s', List.mem_cons_of_mem _ h1, h2⟩
 intro n hn
 rcases key l [] n hn with h | h
 ·cases h
 ·exact h
def namesN (c : Cache) : List (List (List UInt8)) := if cacheOk c then namesS c.slots else []
structure SmallNs (l : List (List (List UInt8))) : Prop where
 len : l.length ≤ 4194304
 mem : ∀ n ∈ l, SmallBB n
theorem SmallNs.names {c : Cache} (h : SmallSs c.slots) : SmallNs (namesN c) := by
 unfold namesN
 split
 ·refine ⟨Nat.le_trans (namesS_len _) h.len, fun n hn => ?_⟩
  obtain ⟨s, h1, rfl⟩ := namesS_mem _ n hn
  exact (h.mem s h1).n
 ·exact ⟨Nat.zero_le _, nofun⟩
theorem SmallSs.filter {l : List Slot} (h : SmallSs l) (f : Slot → Bool) : SmallSs (l.filter f) := ⟨Nat.le_trans (List.length_filter_le _ _) h.len, fun r hr => h.mem r (List.mem_filter.1 hr).1⟩
theorem SmallSs.nil : SmallSs [] := ⟨Nat.zero_le _, nofun⟩
structure Lease where
 ip : Int
 client : List UInt8
 host : List UInt8
 til : Int
 won : Bool
 deriving DecidableEq
def Lease.cells (l : Lease) : List DV := [.sc (.int .i64 l.ip), encB l.client, encB l.host, .sc (.int .i64 l.til), .sc (.bool l.won)]
abbrev encE (l : List Lease) : DV := encL 5 Lease.cells l
structure House where
 now : Int
 zone : Zone
 rev : Zone
 leases : List Lease
 deriving DecidableEq
def House.cells (h : House) : List DV := [.sc (.int .i64 h.now), encBB h.zone.origin, encR h.zone.rrs, encBB h.rev.origin, encR h.rev.rrs, encE h.leases]
section
variable {P : Program} {k : List It} {Q : Ex → St → Prop} {s : St} {d : Option Nat} {q : Bool} {r : T} {oi : Nat} {tags : List Nat}
end
def endT (t : Task) (c : Int) : Task := { t with state := 1, code := c, answers := if c ≠ 0 ∧ c ≠ 3 then [] else t.answers }
def sentT (t : Task) : Task := if t.sends + 1 ≥ 12 then endT { t with sends := t.sends + 1 } 2 else { t with sends := t.sends + 1 }
def nextT (t : Task) : Task := { t with turn := (t.turn + 1).tmod t.servers.length }
def lostT (t : Task) : Task := nextT (sentT t)
theorem sentT_servers (t : Task) : (sentT t).servers = t.servers := by unfold sentT endT; split <;> rfl
theorem sentT_turn (t : Task) : (sentT t).turn = t.turn := by unfold sentT endT; split <;> rfl
theorem SmallT.sent {t : Task} (h : SmallT t) : SmallT (sentT t) := by
 unfold sentT endT
 split
 ·exact ⟨h.f, h.n, h.z, h.h, h.s, .nil⟩
 ·exact ⟨h.f, h.n, h.z, h.h, h.s, h.a⟩
theorem SmallT.next {t : Task} (h : SmallT t) : SmallT (nextT t) := ⟨h.f, h.n, h.z, h.h, h.s, h.a⟩
theorem SmallT.lost {t : Task} (h : SmallT t) : SmallT (lostT t) := h.sent.next
end Hearth

/- Draws: what they tell is of a kind; names that are read. -/
namespace Hearth
open Go
def intsOf : List (List DV) → Option (List Int)
 | [] => some []
 | [.sc (.int .i64 n)] :: r => match intsOf r with
  | some l => some (n :: l)
  | none => none
 | _ => none
theorem intsOf_eq : ∀ {xs : List (List DV)} {l : List Int}, intsOf xs = some l → DV.sl 1 xs = encI l
 | [], l, h => by simp [intsOf] at h; subst h; rfl
 | x :: r, l, h => by
  unfold intsOf at h
  split at h
  ·rename_i e; cases e
  ·rename_i n r' e
   simp only [List.cons.injEq] at e
   obtain ⟨rfl, rfl⟩ := e
   split at h
   ·rename_i l' hl
    simp only [Option.some.injEq] at h
    subst h
    have := intsOf_eq hl
    simp only [encI, DV.sl.injEq, true_and] at this ⊢
    rw [this]; rfl
   ·cases h
  ·cases h
def strsOf : List (List DV) → Option (List ByteArray)
 | [] => some []
 | [.sc (.string n)] :: r => match strsOf r with
  | some l => some (n :: l)
  | none => none
 | _ => none
theorem strsOf_eq : ∀ {xs : List (List DV)} {l : List ByteArray}, strsOf xs = some l → xs = l.map fun b => [.sc (.string b)]
 | [], l, h => by simp [strsOf] at h; subst h; rfl
 | x :: r, l, h => by
  unfold strsOf at h
  split at h
  ·rename_i e; cases e
  ·rename_i n r' e
   simp only [List.cons.injEq] at e
   obtain ⟨rfl, rfl⟩ := e
   split at h
   ·rename_i l' hl
    simp only [Option.some.injEq] at h
    subst h
    rw [strsOf_eq hl]; rfl
   ·cases h
  ·cases h
section
variable {P : Program} {k : List It} {Q : Ex → St → Prop} {s : St} {r : T} {d : Option Nat} {q : Bool} {oi : Nat} {tags : List Nat}
theorem kIadStr {x i : X} {j : IntKind} {n : Int} {id ver ev : Nat} {dp : Bool} {xs : List (List DV)} {l : List ByteArray} (hx : s.ev x = .c (.arr id ver)) (ho : s.ob id = ⟨ver, ev, .arr dp (.sl 1 xs)⟩) (hs : strsOf xs = some l) (hi : s.ev i = .vv (.int j n)) (hm : 0 ≤ n ∧ n < (l.length : Int))
  (h : kont P (.t r tags :: k) Q .normal (s.put d (.c (.ept id ver n.toNat 0)))) : kont P (.t (.op oi [] d none q (.iad 1 x i) r) tags :: k) Q .normal s :=
 kIadA hx hi ho rfl ⟨hm.1, by rw [strsOf_eq hs]; simp only [DV.len, List.length_map]; omega⟩ h
theorem kLoadStr {x : X} {id ver ev i : Nat} {dp : Bool} {xs : List (List DV)} {l : List ByteArray} (hx : s.ev x = .c (.ept id ver i 0)) (ho : s.ob id = ⟨ver, ev, .arr dp (.sl 1 xs)⟩) (hs : strsOf xs = some l) (hi : i < l.length) (hz : (l.all fun b => Nat.ble b.size 64) = true)
  (h : ∀ b : ByteArray, b.size ≤ 64 → kont P (.t r (if q then oi :: tags else tags) :: k) Q .normal ((s.heldIf q [id]).put d (.vv (.string b)))) : kont P (.t (.op oi [] d none q (.load none x) r) tags :: k) Q .normal s := by
 refine kLoadE hx ho (v := .vv (.string l[i])) ?_ (h _ ?_)
 ·rw [strsOf_eq hs]
  rw [row_map 1 (fun b => [DV.sc (.string b)]) l i hi]
  rfl
 ·have := List.all_eq_true.1 hz _ (List.getElem_mem hi)
  exact Nat.le_of_ble_eq_true this
theorem kRem {x y : X} {a b : Int} (hx : s.ev x = .i a) (hy : s.ev y = .i b) (hb : b ≠ 0) (h : kont P (.t r tags :: k) Q .normal (s.put d (.i (a.tmod b)))) :
  kont P (.t (.op oi [] d none q (.bin .rem x y) r) tags :: k) Q .normal s :=
 kBin hx hy (by simp only [evBin, if_true, if_neg hb]) h
end
theorem tmod_in {a n : Int} (h0 : 0 ≤ a) (hn : 0 < n) : 0 ≤ a.tmod n ∧ a.tmod n < n := by
 rw [Int.tmod_eq_emod_of_nonneg h0]
 exact ⟨Int.emod_nonneg _ (by omega), Int.emod_lt_of_pos _ hn⟩
def lowC (c : UInt8) : UInt8 := if 65 ≤ c ∧ c ≤ 90 then c + 32 else c
def lowerB (l : List UInt8) : List UInt8 := l.map lowC
def rdStep (st : List (List UInt8) × List UInt8) (c : UInt8) : List (List UInt8) × List UInt8 := if c = 46 then (st.1 ++ [lowerB st.2], []) else (st.1, st.2 ++ [c])
def rdAll (b : List UInt8) : List (List UInt8) × List UInt8 := b.foldl rdStep ([], [])
def readL (b : List UInt8) : List (List UInt8) := if (rdAll b).2 = [] ∧ 0 < b.length then (rdAll b).1 else (rdAll b).1 ++ [lowerB (rdAll b).2]
def readOk (b : List UInt8) : Bool := decide (b = [46]) || nameOk (readL b)
def readN (b : List UInt8) : List (List UInt8) := if b = [46] then [] else if nameOk (readL b) then readL b else []
theorem readN_ok (b : List UInt8) : nameOk (readN b) = true := by
 unfold readN
 split
 ·rfl
 ·split
  ·assumption
  ·rfl
theorem rdAll_succ (b : List UInt8) (i : Nat) (h : i < b.length) : rdAll (b.take (i + 1)) = rdStep (rdAll (b.take i)) b[i] := by
 unfold rdAll; rw [← List.take_append_getElem h, List.foldl_append]; rfl
theorem rd_len (b : List UInt8) (i : Nat) : (rdAll (b.take i)).1.length + (rdAll (b.take i)).2.length ≤ i := by
 have key : ∀ (l : List UInt8) (st : List (List UInt8) × List UInt8), (l.foldl rdStep st).1.length + (l.foldl rdStep st).2.length ≤ st.1.length + st.2.length + l.length := by
  intro l
  induction l with
  | nil => intro st; simp
  | cons c l ih =>
   intro st
   have := ih (rdStep st c)
   have e : (rdStep st c).1.length + (rdStep st c).2.length ≤ st.1.length + st.2.length + 1 := by
    unfold rdStep; split <;> simp <;> omega
   simp only [List.foldl_cons, List.length_cons]; omega
 have := key (b.take i) ([], [])
 simp only [List.length_nil, List.length_take] at this
 unfold rdAll; omega
theorem nameOk_len {n : List (List UInt8)} (h : nameOk n = true) : n.length ≤ 6 := by
 unfold nameOk at h; simp at h; omega
theorem flat_mul {n : List (List UInt8)} {m : Nat} (h : ∀ b ∈ n, b.length ≤ m) : n.flatten.length ≤ n.length * m := by
 induction n with
 | nil => simp
 | cons x n ih =>
  have h1 := h x (List.mem_cons_self ..)
  have h2 := ih fun b hb => h b (List.mem_cons_of_mem _ hb)
  simp only [List.flatten_cons, List.length_append, List.length_cons, Nat.add_mul]
  omega
theorem nameOk_mem {n : List (List UInt8)} (h : nameOk n = true) : ∀ b ∈ n, 1 ≤ b.length ∧ b.length ≤ 15 := by
 intro b hb
 unfold nameOk at h
 simp only [Bool.and_eq_true, decide_eq_true_eq] at h
 have := List.all_eq_true.1 h.2 b hb
 unfold labelOk at this
 simp only [Bool.and_eq_true, decide_eq_true_eq] at this
 omega
theorem nameOk_flat {n : List (List UInt8)} (h : nameOk n = true) : n.flatten.length ≤ 90 := by
 have h6 := nameOk_len h
 have := flat_mul (m := 15) fun b hb => (nameOk_mem h b hb).2
 have : n.length * 15 ≤ 6 * 15 := Nat.mul_le_mul_right _ h6
 omega
theorem SmallBB.ok {n : List (List UInt8)} (h : nameOk n = true) : SmallBB n := by
 have h6 := nameOk_len h
 have := nameOk_flat h
 exact ⟨by omega, fun b hb => by have := nameOk_mem h b hb; omega, by omega⟩
end Hearth
namespace Hearth
open Go
def rdL (b : List UInt8) (i : Nat) : List (List UInt8) := if i ≤ b.length then (rdAll (b.take i)).1 else readL b
def rdW (b : List UInt8) (i : Nat) : List UInt8 := if i ≤ b.length then (rdAll (b.take i)).2 else []
theorem rd_char {b : List UInt8} {i : Nat} (h : i < b.length) (hc : b[i] ≠ 46) : rdL b (i + 1) = rdL b i ∧ rdW b (i + 1) = rdW b i ++ [b[i]] := by
 unfold rdL rdW
 rw [if_pos (by omega), if_pos (by omega), if_pos (by omega), if_pos (by omega), rdAll_succ _ _ h]
 unfold rdStep
 rw [if_neg hc]
 exact ⟨rfl, rfl⟩
theorem rd_dot {b : List UInt8} {i : Nat} (h : i < b.length) (hc : b[i] = 46) : rdL b (i + 1) = rdL b i ++ [lowerB (rdW b i)] ∧ rdW b (i + 1) = [] := by
 unfold rdL rdW
 rw [if_pos (by omega), if_pos (by omega), if_pos (by omega), if_pos (by omega), rdAll_succ _ _ h]
 unfold rdStep
 rw [if_pos hc]
 exact ⟨rfl, rfl⟩
theorem rd_last {b : List UInt8} : rdL b (b.length + 1) = readL b ∧ rdW b (b.length + 1) = [] := by
 unfold rdL rdW
 rw [if_neg (by omega), if_neg (by omega)]
 exact ⟨rfl, rfl⟩
theorem rd_end {b : List UInt8} : readL b = if rdW b b.length = [] ∧ 0 < b.length then rdL b b.length else rdL b b.length ++ [lowerB (rdW b b.length)] := by
 unfold rdL rdW readL
 rw [if_pos (Nat.le_refl _), if_pos (Nat.le_refl _), List.take_length]
theorem rd_lens (b : List UInt8) (i : Nat) (h : i ≤ b.length) : (rdL b i).length + (rdW b i).length ≤ i := by
 unfold rdL rdW
 rw [if_pos h, if_pos h]
 exact rd_len b i
theorem rdW_mem (b : List UInt8) (i : Nat) : (∀ x ∈ rdL b i, x.length ≤ b.length) ∧ (rdW b i).length ≤ b.length := by
 have key : ∀ (l : List UInt8) (st : List (List UInt8) × List UInt8) (m : Nat), (∀ x ∈ st.1, x.length ≤ m + l.length) → st.2.length ≤ m → (∀ x ∈ (l.foldl rdStep st).1, x.length ≤ m + l.length) ∧ (l.foldl rdStep st).2.length ≤ m + l.length := by
  intro l
  induction l with
  | nil => intro st m h1 h2; exact ⟨by simpa using h1, by simpa using h2⟩
  | cons c l ih =>
   intro st m h1 h2
   have := ih (rdStep st c) (m + 1) (by
    intro x hx
    unfold rdStep at hx
    split at hx
    ·rcases List.mem_append.1 hx with hx | hx
     ·have := h1 x hx; simp only [List.length_cons] at this; omega
     ·simp only [List.mem_singleton] at hx
      subst hx
      simp only [lowerB, List.length_map]; omega
    ·have := h1 x hx; simp only [List.length_cons] at this; omega) (by
    unfold rdStep
    split
    ·simp
    ·simp; omega)
   simp only [List.foldl_cons, List.length_cons]
   refine ⟨fun x hx => ?_, ?_⟩
   ·have := this.1 x hx; omega
   ·have := this.2; omega
 have all : ∀ j, j ≤ b.length → (∀ x ∈ (rdAll (b.take j)).1, x.length ≤ b.length) ∧ (rdAll (b.take j)).2.length ≤ b.length := by
  intro j hj
  have := key (b.take j) ([], []) 0 (by simp) (by simp)
  have hl : (b.take j).length ≤ b.length := by simp; omega
  exact ⟨fun x hx => by have := this.1 x hx; omega, by have := this.2; unfold rdAll; omega⟩
 unfold rdL rdW
 split
 ·exact all i (by assumption)
 ·refine ⟨?_, by simp⟩
  have := all b.length (Nat.le_refl _)
  rw [List.take_length] at this
  unfold readL
  split
  ·exact this.1
  ·intro x hx
   rcases List.mem_append.1 hx with hx | hx
   ·exact this.1 x hx
   ·simp only [List.mem_singleton] at hx
    subst hx
    simp only [lowerB, List.length_map]; exact this.2
theorem readL_small {b : List UInt8} (h : b.length ≤ 4194303) : (readL b).length ≤ 4194304 ∧ ∀ x ∈ readL b, x.length ≤ 4194304 := by
 have h1 := rdW_mem b (b.length + 1)
 have h2 := rd_lens b b.length (Nat.le_refl _)
 rw [rd_last.1] at h1
 refine ⟨?_, fun x hx => by have := h1.1 x hx; omega⟩
 rw [rd_end]
 split
 ·omega
 ·simp; omega
theorem eq46 (b : List UInt8) : ((ByteArray.mk b.toArray).toList == (ByteArray.mk #[46]).toList) = decide (b = [46]) := by
 rw [ByteArray.toList_eq, ByteArray.toList_eq]
 rw [Bool.eq_iff_iff]; simp
end Hearth
namespace Hearth
open Go
def textL (a : List (List UInt8)) : List UInt8 := a.flatMap fun l => l ++ [46]
def textN (a : List (List UInt8)) : List UInt8 := if a = [] then [46] else textL a
theorem textL_take (a : List (List UInt8)) (i : Nat) (h : i < a.length) : textL (a.take (i + 1)) = textL (a.take i) ++ a[i] ++ [46] := by
 unfold textL
 rw [← List.take_append_getElem h, List.flatMap_append]
 simp
theorem textL_len (a : List (List UInt8)) : (textL a).length = a.length + a.flatten.length := by
 induction a with
 | nil => rfl
 | cons x a ih => simp only [textL, List.flatMap_cons, List.length_append, List.length_cons, List.flatten_cons, List.length_nil] at *; omega
theorem textL_le (a : List (List UInt8)) (i : Nat) : (textL (a.take i)).length ≤ a.length + a.flatten.length := by
 rw [textL_len]
 have := flat_le a i
 simp only [List.length_take]; omega
theorem bt_len (b : ByteArray) : b.toList.length = b.size := by
 rw [ByteArray.toList_eq]; exact Array.length_toList
end Hearth
namespace Hearth
theorem SmallBB.bent {l : List (List UInt8)} (h : l.length ≤ 7 ∧ ∀ b ∈ l, b.length ≤ 64) : SmallBB l := by
 have := flat_mul (m := 64) h.2
 have : l.length * 64 ≤ 7 * 64 := Nat.mul_le_mul_right _ h.1
 exact ⟨by omega, fun b hb => by have := h.2 b hb; omega, by omega⟩
end Hearth
namespace Hearth
structure drawnR (r : Rr) : Prop where
 n : nameOk r.name = true
 t : nameOk r.to = true
 x : r.text.length ≤ 64
 m : r.nums.length ≤ 64
end Hearth
namespace Hearth
theorem drawnR.small {r : Rr} (h : drawnR r) : SmallR r := ⟨.ok h.n, .ok h.t, by have := h.x; omega, by have := h.m; omega⟩
end Hearth
namespace Hearth
def sameR (a b : Rr) : Bool := rrOk a && rrOk b && decide (cmpR a b = 0)
end Hearth
namespace Hearth
theorem sameR_refl {r : Rr} (h : rrOk r = true) : sameR r r = true := by
 unfold sameR; rw [h]; simp [cmpR_iff]
theorem rrOk_name {r : Rr} (h : rrOk r = true) : nameOk r.name = true := by
 unfold rrOk at h
 simp only [Bool.and_eq_true] at h
 exact h.1.1.1
section
open Go
variable {α : Type} {P : Program} {k : List It} {Q : Ex → St → Prop} {s : St} {d : Option Nat} {q : Bool} {r : T} {oi : Nat} {tags : List Nat} {f : α → List DV} {l : List α} {sz : Nat}
end
end Hearth

/- Bytes looked for, counted, split. -/
namespace Hearth
open Go Go.RowKit
section
variable {α : Type} {P : Program} {k : List It} {Q : Ex → St → Prop} {s : St} {d : Option Nat} {q : Bool} {r : T} {oi : Nat} {tags : List Nat} {f : α → List DV} {l : List α} {sz : Nat}
theorem kCutAH {x hi : X} {j : IntKind} {n : Int} {id ver ev : Nat} {dp : Bool} (hx : s.ev x = .c (.arr id ver)) (ho : s.ob id = ⟨ver, ev, .arr dp (.sl sz (l.map f))⟩) (hh : s.hold.contains id = false) (hv : Nat.ble 1 ver = true) (hhi : s.ev hi = .vv (.int j n)) (hb : 0 ≤ n ∧ n ≤ (l.length : Int))
  (h : kont P (.t r tags :: k) Q .normal ((s.setOb id ⟨ver, ev + 1, .frz (.sl sz (l.map f))⟩).put d (.dv (.sl sz ((l.take n.toNat).map f))))) :
  kont P (.t (.op oi [] d none q (.cut sz x none (some hi)) r) tags :: k) Q .normal s :=
 kCutA (a := 0) (b := n.toNat) hx ho hh (Nat.le_of_ble_eq_true hv) rfl rfl (.inl ⟨rfl, rfl⟩) (.inr ⟨j, congrArg some (by rw [hhi, Int.toNat_of_nonneg hb.1])⟩) ⟨Nat.zero_le _, by rw [len_map]; omega⟩ (by rw [cut_map]; simpa using h)
end
section
variable {P : Program} {k : List It} {Q : Ex → St → Prop} {s : St} {d : Option Nat} {q : Bool} {r : T} {oi : Nat} {tags : List Nat}
end
section
variable {α : Type} {P : Program} {k : List It} {Q : Ex → St → Prop} {s : St} {d : Option Nat} {q : Bool} {r : T} {oi : Nat} {tags : List Nat} {f : α → List DV} {l : List α} {sz : Nat}
variable {e bytes : Nat} {x y : X} {cx cy : AC} {dp dp' : Bool} {ids : List Nat} {id v ve : Nat} {vk : OK}
theorem kAppR2 {z1 z2 : α} (hx : s.ev x = .c cx) (hy : s.ev y = .c cy) (hb : s.base cx = some (dp, .sl sz (l.map f))) (hs : s.src cy = some (dp', .sl sz [f z1, f z2], ids)) (hid : cx.ownId e = id) (hob : s.ob id = ⟨v, ve, vk⟩)
  (h0 : Nat.ble 1 sz = true) (hh : (!s.hold.contains id && ids.all (fun j => !s.hold.contains j) && !ids.contains id && notMe id cy) = true)
  (hlen : (l.length + 2) * bytes ≤ 140737488355328 ∧ l.length + 2 ≤ 9223372036854775807)
  (h : kont P (.t r tags :: k) Q .normal (((s.kill ids).setOb id ⟨v + 1, 0, .arr (dp && dp') (.sl sz ((l ++ [z1, z2]).map f))⟩).put d (.c (.arr id (v + 1))))) : kont P (.t (.op oi [] d none q (.app e sz bytes x y) r) tags :: k) Q .normal s :=
 kAppR (l' := [z1, z2]) hx hy hb hs hid hob h0 hh hlen h
end
theorem src_ownB {s : St} {id ver ev : Nat} {dp : Bool} {b : List UInt8} (ho : s.ob id = ⟨ver, ev, .arr dp (encB b)⟩) : s.src (.arr id ver) = some (dp, encB b, []) := by
 simp [St.src, St.obj, ho, noNest_encB]
section
variable {P : Program} {k : List It} {Q : Ex → St → Prop} {s : St} {r : T} {d : Option Nat} {q : Bool} {oi : Nat} {tags : List Nat}
end
theorem FnOK.ofWalkGrow {P : Program} {f : FuncId} {fn : Func} {sz : Nat} (hf : P.funcs[f]? = some fn) (hb : fn.body.isSome = true) (hname : (fn.name == "runtime.NumGoroutine") = false) {n : Int}
  (h : ∀ (w : World) (v : Value), (v = .slice none 0 0 ∨ ∃ b cap cur e0, v = .slice (some ⟨b, 0, none⟩) 0 cap ∧ w.heap[b]? = some (.cells cur e0 (0, 0)) ∧ cap ≤ maxLen ∧ cur.size = cap * sz) → Calls P f #[v, .int .i64 n] w fun e w' =>
   (e = .returned v ∧ w' = w) ∨ (∃ cap cur e0, e = .returned (.slice (some ⟨w.heap.size, 0, none⟩) 0 cap) ∧ BelowD w.heap.size w w' ∧ w'.heap[w.heap.size]? = some (.cells cur e0 (0, 0)) ∧ cap ≤ maxLen ∧ cur.size = cap * sz)) :
  FnOK P f [.one (.arr true true (.sl sz [])), .one (.d (.sc (.int .i64 n)))] (fun ra _ => ra = [.one (.own true (.sl sz []))]) := by
 refine ⟨⟨fn, hf, hb, hname⟩, fun w S Fs vs hs hv _ hFl _ hF => ?_⟩
 have hs1 : vs.size = 2 := hs
 obtain ⟨_, hp0⟩ := (hv 0 _ vs[0] rfl (Array.getElem?_eq_getElem (by omega)))
 have hp1 := (hv 1 _ vs[1] rfl (Array.getElem?_eq_getElem (by omega)))
 have h1 : vs[1] = .int .i64 n := Pers.scEq hp1
 have hvs : vs = #[vs[0], .int .i64 n] := by
  apply Array.ext
  ·simpa using hs1
  ·intro i h1' h2'
   match i with
   | 0 => rfl
   | 1 => exact h1
   | i + 2 => omega
 have htop : vs[0] = .slice none 0 0 ∨ ∃ b cap cur e0, vs[0] = .slice (some ⟨b, 0, none⟩) 0 cap ∧ w.heap[b]? = some (.cells cur e0 (0, 0)) ∧ cap ≤ maxLen ∧ cur.size = cap * sz ∧ Fs (aid 0 0) b := by
  rcases hp0 with ⟨_, e⟩ | ⟨b, cap, cur, e0, us, Fs', e1, e2, e3, e4, e5, e6, _⟩
  ·exact .inl e
  ·exact .inr ⟨b, cap, cur, e0, e1, e2, e5, e6, e3⟩
 have main := h w vs[0] (htop.imp id fun ⟨b, cap, cur, e0, e1, e2, e3, e4, _⟩ => ⟨b, cap, cur, e0, e1, e2, e3, e4⟩)
 rw [hvs]
 have args : ∀ (w' : World) (G : Nat → Nat → Prop) (os : Outs) (t k : Nat) (g : GA) (v : Value) (p : PA) (u : Value), ([.one (.arr true true (.sl sz [])), .one (.d (.sc (.int .i64 n)))] : List GA)[t]? = some g → (#[vs[0], Value.int .i64 n] : Array Value)[t]? = some v → g.at k = some p →
   (match g with | .one _ => u = v | .agg _ => ∃ us : Array Value, v = .agg us ∧ us[k]? = some u) →
    match p with
    | .arr false dp x => (os.a (aid t k)).isSl = true ∧ (os.a (aid t k)).esz = x.esz ∧ Top w' (fun b => b < w'.heap.size ∧ (S b ∨ w.heap.size ≤ b ∨ GivenTo [.one (.arr true true (.sl sz [])), .one (.d (.sc (.int .i64 n)))] Fs b) ∧ ∀ i, ¬ G i b) dp x.esz (os.a (aid t k)).rows u (Fs (aid t k))
    | .box cs => PAr P w' (fun b => b < w'.heap.size ∧ (S b ∨ w.heap.size ≤ b ∨ GivenTo [.one (.arr true true (.sl sz [])), .one (.d (.sc (.int .i64 n)))] Fs b) ∧ ∀ i, ¬ G i b) (fun _ => False) (.box (os.b (aid t k))) u (Fs (aid t k)) ∧ (os.b (aid t k)).length = cs.length
    | _ => True := by
  intro w' G os t k g v p u hg _ hp _
  match t with
  | 0 =>
   simp at hg; subst hg
   simp only [GA.at] at hp
   split at hp
   ·simp at hp; subst hp; trivial
   ·simp at hp
  | 1 =>
   simp at hg; subst hg
   simp only [GA.at] at hp
   split at hp
   ·simp at hp; subst hp; trivial
   ·simp at hp
  | t + 2 => simp at hg
 refine main.mono fun e w' hm => ?_
 rcases hm with ⟨rfl, rfl⟩ | ⟨cap, cur, e0, rfl, hbel, g1, g2, g3⟩
 ·rcases htop with e | ⟨b, cap, cur, e0, e1, e2, e3, e4, e5⟩
  ·refine ⟨_, [.one (.own true (.sl sz []))], ⟨fun _ => .sl 0 [], fun _ => []⟩, fun _ _ => False, rfl, rfl, Ext.refl _ _, ⟨by simp, by simp, by simp⟩, ⟨#[vs[0]], rfl, rfl, fun t a u ha hu => ?_⟩, fun t k g v p u => args _ _ _ t k g v p u⟩
   match t with
   | 0 =>
    simp at ha hu; subst ha; subst hu
    exact ⟨rfl, .inl ⟨rfl, e⟩⟩
   | t + 1 => simp at ha
  ·refine ⟨_, [.one (.own true (.sl sz []))], ⟨fun _ => .sl 0 [], fun _ => []⟩, fun i c => i = aid 0 0 ∧ c = b, rfl, rfl, Ext.refl _ _, ⟨fun i j c h1 h2 => h1.1.trans h2.1.symm, fun i c hc => by rw [hc.2]; exact (hFl _ _ e5).1, fun i c hc => .inr ⟨aid 0 0, true, .sl sz [], rfl, by rw [hc.2]; exact e5⟩⟩, ⟨#[vs[0]], rfl, rfl, fun t a u ha hu => ?_⟩, fun t k g v p u => args _ _ _ t k g v p u⟩
   match t with
   | 0 =>
    simp at ha hu; subst ha; subst hu
    exact ⟨rfl, .inr ⟨b, cap, cur, e0, fun _ _ => undef, fun _ _ _ => False, e1, e2, ⟨rfl, rfl⟩, Nat.zero_le _, e3, e4, by simp [DV.rows], by simp [DV.rows], by simp, by simp, by simp [DV.rows]⟩⟩
   | t + 1 => simp at ha
 ·have hlt : w.heap.size < w'.heap.size := (Array.getElem?_eq_some_iff.1 g1).1
  refine ⟨_, [.one (.own true (.sl sz []))], ⟨fun _ => .sl 0 [], fun _ => []⟩, fun i c => i = aid 0 0 ∧ c = w.heap.size, rfl, rfl, ⟨hbel.1.os, hbel.1.tape, hbel.1.output, hbel.1.size, fun k hk _ => hbel.1.block k hk, hbel.2⟩, ⟨fun i j c h1 h2 => h1.1.trans h2.1.symm, fun i c hc => by rw [hc.2]; exact hlt, fun i c hc => .inl (by rw [hc.2]; exact Nat.le_refl _)⟩, ⟨#[.slice (some ⟨w.heap.size, 0, none⟩) 0 cap], rfl, rfl, fun t a u ha hu => ?_⟩, fun t k g v p u => args _ _ _ t k g v p u⟩
  match t with
  | 0 =>
   simp at ha hu; subst ha; subst hu
   exact ⟨rfl, .inr ⟨w.heap.size, cap, cur, e0, fun _ _ => undef, fun _ _ _ => False, rfl, g1, ⟨rfl, rfl⟩, Nat.zero_le _, g2, g3, by simp [DV.rows], by simp [DV.rows], by simp, by simp, by simp [DV.rows]⟩⟩
  | t + 1 => simp at ha
end Hearth

/- The abstract machine: a variable's row under another name. -/
namespace Hearth
open Go
end Hearth

/- The abstract machine: a variable's own row turned to data. -/
namespace Hearth
open Go
variable {P : Program} {N : Nat} {w0 : World} {own0 : Nat → Nat → Prop} {hdr0 : Nat → Value} {Fr : List ((Nat → Prop) × World)} {own : Nat → Nat → Prop} {hdr : Nat → Value} {s : St} {a : Act} {w : World}
theorem relX_boxCell (r : RelX P N w0 own0 hdr0 Fr own hdr s a w) {id j ver ev : Nat} {cs : List AC} {c0 c' : AC} (hb : s.ob id = ⟨ver, ev, .box cs⟩) (hj : cs[j]? = some c0) (hc : ∀ u, RC P w own hdr s.ob c0 u → RC P w own hdr s.ob c' u) :
  RelX P N w0 own0 hdr0 Fr own hdr ⟨s.sl, upd s.ob id ⟨ver, ev, .box (cs.set j c')⟩, s.hold⟩ a w := by
 have rc2 : ∀ c u, RC P w own hdr s.ob c u → RC P w own hdr (upd s.ob id ⟨ver, ev, .box (cs.set j c')⟩) c u := by
  have key : ∀ i, ((upd s.ob id ⟨ver, ev, .box (cs.set j c')⟩) i).ver = (s.ob i).ver ∧ ((upd s.ob id ⟨ver, ev, .box (cs.set j c')⟩) i).ev = (s.ob i).ev ∧ ((upd s.ob id ⟨ver, ev, .box (cs.set j c')⟩) i).k.dv = (s.ob i).k.dv := by
   intro i
   unfold upd
   split
   ·rename_i e; subst e; rw [hb]; exact ⟨rfl, rfl, rfl⟩
   ·exact ⟨rfl, rfl, rfl⟩
  intro c u hc
  cases c <;> first
   | exact hc
   | (simp only [RC, (key _).1, (key _).2.1, (key _).2.2] at hc ⊢; exact hc)
 have hne' : alien ≠ id := fun e => by
  have := r.al
  rw [e, hb] at this
  cases this
 refine ⟨r.n, r.defers, fun t => ?_, fun i => ?_, ?_, ?_, r.dis, r.lt, r.ext, fun i hi => r.zero i ?_, r.new, r.frs⟩
 ·have := r.tmps t
  have hs : ∀ {x : AV} {u : Value}, RS P w own hdr s.ob x u → RS P w own hdr (upd s.ob id ⟨ver, ev, .box (cs.set j c')⟩) x u := by
   intro x u hx
   cases x with
   | c c => exact rc2 c u hx
   | g xs => obtain ⟨vs, e1, e2, e3⟩ := hx; exact ⟨vs, e1, e2, fun k x u a b => rc2 x u (e3 k x u a b)⟩
   | t xs =>
    obtain ⟨vs, e1, e2, e3⟩ := hx
    refine ⟨vs, e1, e2, fun k x u a b => ?_⟩
    have := e3 k x u a b
    cases x with
    | c c => exact rc2 c u this
    | g xs => obtain ⟨vs, f1, f2, f3⟩ := this; exact ⟨vs, f1, f2, fun k x u a b => rc2 x u (f3 k x u a b)⟩
    | t xs => exact this
  exact hs this
 ·have ho := r.objs i
  by_cases hi : i = id
  ·subst hi
   obtain ⟨b, vs, t, g1, g2, g3, g4, g5⟩ := r.boxAt (id := i) (cs := cs) (by rw [hb])
   unfold RO
   simp only [upd_same]
   refine ⟨b, vs, t, g1, g2, g3, by simpa using g4, fun k c u h3 h4 => ?_⟩
   rw [List.getElem?_set] at h3
   split at h3
   ·rename_i e
    subst e
    split at h3
    ·simp at h3; subst h3
     exact rc2 _ _ (hc u (g5 j c0 u hj h4))
    ·simp at h3
   ·exact rc2 _ _ (g5 k c u h3 h4)
  ·show RO P w own hdr (upd s.ob id ⟨ver, ev, .box (cs.set j c')⟩) i
   unfold RO at ho ⊢
   simp only [upd_ne _ _ _ _ hi]
   split at ho
   ·rename_i hk; first | exact ho | (simp only [hk]; exact ho)
   ·rename_i hk; first | exact ho | (simp only [hk]; exact ho)
   ·rename_i cs' hk
    try simp only [hk]
    obtain ⟨b, vs, t, g1, g2, g3, g4, g5⟩ := ho
    exact ⟨b, vs, t, g1, g2, g3, g4, fun k c u a b => rc2 c u (g5 k c u a b)⟩
   ·rename_i hk; first | exact ho | (simp only [hk]; exact ho)
   ·rename_i hk; first | exact ho | (simp only [hk]; exact ho)
   ·rename_i hk; first | exact ho | (simp only [hk]; exact ho)
 ·show (upd s.ob id _ alien).k = _
  rw [upd_ne _ _ _ _ hne']; exact r.al
 ·show (upd s.ob id _ alien).ver = _
  rw [upd_ne _ _ _ _ hne']; exact r.alv
 ·show (s.ob i).ver = 0
  have hi' : (upd s.ob id ⟨ver, ev, .box (cs.set j c')⟩ i).ver = 0 := hi
  unfold upd at hi'
  split at hi'
  ·rename_i e; subst e; rw [hb]; exact hi'
  ·exact hi'
theorem Sub.frzBox {s : St} (id id1 j : Nat) {ver ev v1 e1 : Nat} {cs : List AC} {dp : Bool} {x : DV} (hb : s.ob id = ⟨ver, ev, .box cs⟩) (h1 : s.ob id1 = ⟨v1, e1, .arr dp x⟩) (hj : cs[j]? = some (.arr id1 v1)) (hv : Nat.ble 1 v1 = true)
  (hne : Nat.beq id id1 = false) : Sub s ⟨s.sl, upd (upd s.ob id1 ⟨v1, e1 + 1, .frz x⟩) id ⟨ver, ev, .box (cs.set j (.d x))⟩, []⟩ := by
 have hne := Nat.ne_of_beq_eq_false hne
 rintro P N w0 own0 hdr0 a w ⟨own, hdr, r⟩
 obtain ⟨own', hdr', r', hp⟩ := (r.hold []).freeze (id := id1) (dp := dp) (x := x) (by show (s.ob id1).k = _; rw [h1]) (by simp) (by show 0 < (s.ob id1).ver; rw [h1]; exact Nat.le_of_ble_eq_true hv)
 have e : ({ s with hold := [] } : St).ob id1 = s.ob id1 := rfl
 have ev1 : (s.ob id1).ver = v1 := by rw [h1]
 have ev2 : (s.ob id1).ev = e1 := by rw [h1]
 simp only [St.setOb, e, ev1, ev2] at r'
 refine ⟨own', hdr', ?_⟩
 refine relX_boxCell r' (id := id) (j := j) (ver := ver) (ev := ev) (cs := cs) (c0 := .arr id1 v1) (c' := .d x) (by show upd s.ob id1 _ id = _; rw [upd_ne _ _ _ _ hne]; exact hb) hj (fun u hu => ?_)
 have h2 := r'.frzAt (id := id1) (x := x) (by show (upd s.ob id1 _ id1).k = _; rw [upd_same])
 have h3 : u = hdr' id1 := hu.2 (by show v1 = (upd s.ob id1 _ id1).ver; rw [upd_same])
 show Pers w (Free w own') x u
 rw [h3]
 exact h2.2.2
theorem Sub.flat {s : St} (id : Nat) {ver ev : Nat} {dp : Bool} {x : DV} (ho : s.ob id = ⟨ver, ev, .arr dp x⟩) (hv : Nat.ble 1 ver = true) : Sub s ⟨s.sl, upd s.ob id ⟨ver, ev + 1, .flat x⟩, []⟩ := by
 have hv := Nat.le_of_ble_eq_true hv
 rintro P N w0 own0 hdr0 a w ⟨own, hdr, r0⟩
 have r := r0.hold []
 have hk : (({ s with hold := [] } : St).ob id).k = .arr dp x := by show (s.ob id).k = _; rw [ho]
 have hver : (s.ob id).ver = ver := by rw [ho]
 have hev : (s.ob id).ev = ev := by rw [ho]
 obtain ⟨hsl, ht⟩ := r.arrAt hk
 have main : ∃ F : Nat → Prop, (∀ b, F b → own id b) ∧ (Top w (Free w (ownTo own id [] F)) false x.esz x.rows (hdr id) F) ∧
   ∀ (i j : Nat) (cs : List DV) (d : DV), x.rows[i]? = some cs → cs[j]? = some d → ∃ u, SubAt w (hdr id) x.esz i j u ∧ Pers w (Free w (ownTo own id [] F)) d u := by
  rcases ht with ⟨h1, h2⟩ | ⟨b, cap, cur, e, us, Fs, h1, h2, h3, h4, h5, h6, h7, h8, h9, h10, h11⟩
  ·refine ⟨fun _ => False, nofun, .inl ⟨h1, h2⟩, fun i j cs d hi _ => ?_⟩
   rw [h1] at hi; simp at hi
  ·have free : ∀ c, (Free w own c ∨ (own id c ∧ c ≠ b)) → Free w (ownTo own id [] (fun c => c = b)) c := by
    rintro c (hc | ⟨hc, hcb⟩)
    ·refine ⟨hc.1, fun k hk => ?_⟩
     simp only [ownTo] at hk
     split at hk
     ·subst hk; exact hc.2 id h3
     ·simp at hk; exact hc.2 k hk
    ·refine ⟨r.lt id c hc, fun k hk => ?_⟩
     simp only [ownTo] at hk
     split at hk
     ·exact hcb hk
     ·rename_i hne
      simp at hk
      exact hne (r.dis k id c hk hc)
   have hp : ∀ (i j : Nat) (cs : List DV) (d : DV), x.rows[i]? = some cs → cs[j]? = some d → Pers w (Free w (ownTo own id [] (fun c => c = b))) d (us i j) := fun i j cs d hi hj =>
    (h11 i j cs d hi hj).toPers (fun c hc => free c (.inl hc)) (fun c hc => free c (.inr ⟨(h9 i j c hc).1, (h9 i j c hc).2⟩))
   refine ⟨fun c => c = b, fun c hc => by rw [hc]; exact h3, .inr ⟨b, cap, cur, e, us, fun _ _ _ => False, h1, h2, rfl, h4, h5, h6, h7, h8, nofun, nofun, fun i j cs d hi hj => .pers _ _ _ rfl (hp i j cs d hi hj)⟩, fun i j cs d hi hj => ⟨us i j, ?_, hp i j cs d hi hj⟩⟩
   refine ⟨b, x.rows.length, cap, h1, (List.getElem?_eq_some_iff.1 hi).1, ?_, ?_⟩
   ·rw [← h7 i cs hi]; exact (List.getElem?_eq_some_iff.1 hj).1
   ·simp [World.cell?, h2, h8 i j cs d hi hj]
 obtain ⟨F, f1, f2, f3⟩ := main
 have h := r.turn (id := id) (ids := []) (k := .flat x) (ev := (s.ob id).ev + 1) (F := F) (w' := w) ⟨r.ne_al (by rw [hk]; simp), by simp⟩ (by simp) (by simp) (by simp) (Ext.refl _ _)
  (fun b hb => ⟨id, .inl rfl, f1 b hb⟩) (fun h => by have : (s.ob id).ver = 0 := h; omega) (Nat.le_succ _) (by rw [hk]; rfl) (fun h => by have : (s.ob id).ev + 1 = (s.ob id).ev := h; omega) (fun rc => by
  unfold RO
  simp only [St.setOb, upd_same]
  have e1 : hdrTo hdr id [] (hdr id) id = hdr id := by simp [hdrTo]
  have e2 : ownTo own id [] F id = F := by simp [ownTo]
  rw [e1, e2]
  exact ⟨⟨hsl, f2⟩, f3⟩)
 rw [St.kill_nil] at h
 have h2 := h.1.hold []
 have e : ({ s with hold := [] } : St).ob id = s.ob id := rfl
 simp only [St.setOb, e, hver, hev] at h2
 exact ⟨_, _, h2⟩
section
variable {α : Type} {P : Program} {k : List It} {Q : Ex → St → Prop} {s : St} {r : T} {d : Option Nat} {q : Bool} {oi : Nat} {tags : List Nat} {f : α → List DV} {l : List α} {sz : Nat}
end
end Hearth

/- Zones: a record that is added; zones as draws make them. -/
namespace Hearth
open Go
def ttlR (r x : Rr) : Rr := if x.name = r.name ∧ x.ty = r.ty then { x with ttl := r.ttl } else x
def addSt (r : Rr) (st : List Rr × Bool) (x : Rr) : List Rr × Bool :=
 let o := if st.2 = false ∧ cmpR r x ≤ 0 then st.1 ++ [r] else st.1
 (if cmpR r x = 0 then o else o ++ [ttlR r x], st.2 || decide (cmpR r x ≤ 0))
def addAt (l : List Rr) (r : Rr) : List Rr × Bool := l.foldl (addSt r) ([], false)
def addL (l : List Rr) (r : Rr) : List Rr := if (addAt l r).2 then (addAt l r).1 else (addAt l r).1 ++ [r]
def addZ (z : Zone) (r : Rr) : Zone := ⟨z.origin, addL z.rrs r⟩
def addOk (z : Zone) (r : Rr) : Bool := zoneOk z && rrOk r && zoneOk (addZ z r)
def addN (z : Zone) (r : Rr) : Zone := if zoneOk z && rrOk r then (if zoneOk (addZ z r) then addZ z r else z) else zeroZ
theorem cmpR_ttl (r x : Rr) : cmpR r (ttlR r x) = cmpR r x := by
 unfold ttlR; split <;> rfl
theorem ttlR_ok {r x : Rr} (hr : rrOk r = true) (hx : rrOk x = true) : rrOk (ttlR r x) = true := by
 unfold ttlR
 split
 ·unfold rrOk at *
  simp only [Bool.and_eq_true] at *
  exact ⟨⟨hx.1.1, hr.1.2⟩, hx.2⟩
 ·exact hx
theorem ttlR_small {r x : Rr} (hx : SmallR x) : SmallR (ttlR r x) := by
 unfold ttlR
 split
 ·exact ⟨hx.n, hx.t, hx.x, hx.m⟩
 ·exact hx
theorem addAt_succ (l : List Rr) (r : Rr) (i : Nat) (h : i < l.length) : addAt (l.take (i + 1)) r = addSt r (addAt (l.take i) r) l[i] := by
 unfold addAt; rw [← List.take_append_getElem h, List.foldl_append]; rfl
theorem addAt_len (l : List Rr) (r : Rr) (i : Nat) : (addAt (l.take i) r).1.length ≤ 2 * l.length := by
 have key : ∀ (l : List Rr) (st : List Rr × Bool), (l.foldl (addSt r) st).1.length ≤ st.1.length + 2 * l.length := by
  intro l
  induction l with
  | nil => intro st; simp
  | cons x l ih =>
   intro st
   have := ih (addSt r st x)
   have e : (addSt r st x).1.length ≤ st.1.length + 2 := by
    unfold addSt
    simp only
    split <;> split <;> simp
   simp only [List.foldl_cons, List.length_cons]; omega
 have := key (l.take i) ([], false)
 simp only [List.length_nil, List.length_take] at this
 unfold addAt; omega
theorem addAt_mem (l : List Rr) (r : Rr) (q : Rr → Prop) (h1 : q r) (h2 : ∀ x ∈ l, q (ttlR r x)) : ∀ x ∈ (addAt l r).1, q x := by
 have key : ∀ (l : List Rr) (st : List Rr × Bool), (∀ x ∈ l, q (ttlR r x)) → (∀ x ∈ st.1, q x) → ∀ x ∈ (l.foldl (addSt r) st).1, q x := by
  intro l
  induction l with
  | nil => intro st _ h; exact h
  | cons y l ih =>
   intro st hl hs
   refine ih _ (fun x hx => hl x (List.mem_cons_of_mem _ hx)) ?_
   have ho : ∀ x ∈ (if st.2 = false ∧ cmpR r y ≤ 0 then st.1 ++ [r] else st.1), q x := by
    intro x hx
    split at hx
    ·rcases List.mem_append.1 hx with hx | hx
     ·exact hs x hx
     ·simp only [List.mem_singleton] at hx; rw [hx]; exact h1
    ·exact hs x hx
   intro x hx
   unfold addSt at hx
   simp only at hx
   split at hx
   ·exact ho x hx
   ·rcases List.mem_append.1 hx with hx | hx
    ·exact ho x hx
    ·simp only [List.mem_singleton] at hx; rw [hx]; exact hl y (List.mem_cons_self ..)
 exact key l ([], false) h2 (by simp)
theorem addL_mem (l : List Rr) (r : Rr) (q : Rr → Prop) (h1 : q r) (h2 : ∀ x ∈ l, q (ttlR r x)) : ∀ x ∈ addL l r, q x := by
 have := addAt_mem l r q h1 h2
 unfold addL
 split
 ·exact this
 ·intro x hx
  rcases List.mem_append.1 hx with hx | hx
  ·exact this x hx
  ·simp only [List.mem_singleton] at hx; rw [hx]; exact h1
theorem addL_len (l : List Rr) (r : Rr) : (addL l r).length ≤ 2 * l.length + 1 := by
 have := addAt_len l r l.length
 rw [List.take_length] at this
 unfold addL
 split
 ·omega
 ·simp; omega
theorem rrOk_small {r : Rr} (h : rrOk r = true) : SmallR r := by
 unfold rrOk at h
 simp only [Bool.and_eq_true, decide_eq_true_eq] at h
 obtain ⟨⟨⟨h1, h2⟩, h3⟩, h4⟩ := h
 unfold dataOk at h4
 simp only [Bool.and_eq_true] at h4
 obtain ⟨⟨⟨k1, k2⟩, k3⟩, k4⟩ := h4
 refine ⟨.ok h1, ?_, ?_, ?_⟩
 ·by_cases e : hasTo r.ty = true
  ·rw [if_pos e] at k3; exact .ok k3
  ·rw [if_neg e] at k3
   simp at k3
   rw [k3]; exact .nil
 ·by_cases e : hasText r.ty = true
  ·rw [if_pos e] at k4; simp at k4; omega
  ·rw [if_neg e] at k4
   simp at k4
   rw [k4]; simp
 ·by_cases e : r.ty = 6
  ·rw [if_pos (by simpa using e)] at k1
   unfold numsOk at k1
   split at k1
   ·omega
   ·cases k1
  ·rw [if_neg (by simpa using e)] at k1
   simp at k1
   rw [k1]; simp
theorem zoneOk_small {z : Zone} (h : zoneOk z = true) : SmallZ z := by
 have hm := zone_rrs h
 unfold zoneOk at h
 simp only [Bool.and_eq_true, decide_eq_true_eq] at h
 exact ⟨.ok h.1.1.1.1, ⟨by omega, fun r hr => rrOk_small (hm r hr)⟩⟩
theorem zoneOk_pos {z : Zone} (h : zoneOk z = true) : 0 < z.rrs.length ∧ z.rrs.length ≤ 60 := by
 have h2 := topIx_lt h
 unfold zoneOk at h
 simp only [Bool.and_eq_true, decide_eq_true_eq] at h
 omega
theorem addZ_small {z : Zone} {r : Rr} (hz : zoneOk z = true) (hr : rrOk r = true) : SmallZ (addZ z r) := by
 have hs := zoneOk_small hz
 have hp := zoneOk_pos hz
 have := addL_len z.rrs r
 exact ⟨hs.o, ⟨by show (addL z.rrs r).length ≤ _; omega, addL_mem _ _ _ (rrOk_small hr) fun x hx => rrOk_small (ttlR_ok hr (zone_rrs hz x hx))⟩⟩
theorem addN_ok {z : Zone} {r : Rr} (hz : zoneOk z = true) (hr : rrOk r = true) : zoneOk (addN z r) = true := by
 unfold addN
 rw [if_pos (by simp [hz, hr])]
 split
 ·assumption
 ·exact hz
theorem drawn_A {n : List (List UInt8)} {ttl a : Int} (hn : nameOk n = true) (ht : ttl ∈ ([0, 5, 60, 300, 100000] : List Int)) (ha : a ∈ ([1, 167772163, 167772164, 4294967295] : List Int)) : rrOk ⟨n, 1, ttl, a, [], [], []⟩ = true := by
 simp at ht ha
 unfold rrOk dataOk
 rcases ht with rfl | rfl | rfl | rfl | rfl <;> rcases ha with rfl | rfl | rfl | rfl <;> (simp only [hn]; rfl)
theorem drawn_soa {n t : List (List UInt8)} {ttl a b : Int} (hn : nameOk n = true) (hto : nameOk t = true) (ht : ttl ∈ ([0, 5, 60, 300, 100000] : List Int)) (ha : 0 ≤ a ∧ (a < 9 ∨ a = 0)) (hb : b ∈ ([0, 30, 100000] : List Int)) : rrOk ⟨n, 6, ttl, 0, t, [], [a, b]⟩ = true := by
 simp at ht hb
 have h1 : isW a = true := by unfold isW; simp; omega
 unfold rrOk dataOk
 rcases ht with rfl | rfl | rfl | rfl | rfl <;> rcases hb with rfl | rfl | rfl <;> (simp [hn, hto, h1, hasTo, hasText, tyOk])
theorem drawn_to {n t : List (List UInt8)} {ty ttl : Int} (hn : nameOk n = true) (hto : nameOk t = true) (hy : ty ∈ ([1, 1, 2, 5, 6, 12, 16, 49] : List Int)) (h6 : ty ≠ 6) (h1 : hasTo ty = true) (ht : ttl ∈ ([0, 5, 60, 300, 100000] : List Int)) : rrOk ⟨n, ty, ttl, 0, t, [], []⟩ = true := by
 simp at hy ht
 unfold rrOk dataOk
 rcases hy with rfl | rfl | rfl | rfl | rfl | rfl | rfl <;> first | (exact absurd h1 (by decide)) | (exact absurd rfl h6) | (rcases ht with rfl | rfl | rfl | rfl | rfl <;> (simp [hn, hto, hasTo, hasText, tyOk]))
theorem drawn_text {n : List (List UInt8)} {ty ttl : Int} {x : List UInt8} (hn : nameOk n = true) (hy : ty ∈ ([1, 1, 2, 5, 6, 12, 16, 49] : List Int)) (ha : ty ≠ 1) (h1 : hasTo ty = false) (ht : ttl ∈ ([0, 5, 60, 300, 100000] : List Int)) (hx : x.length ≤ 40) : rrOk ⟨n, ty, ttl, 0, [], x, []⟩ = true := by
 simp at hy ht
 unfold rrOk dataOk
 rcases hy with rfl | rfl | rfl | rfl | rfl | rfl | rfl <;> first | (exact absurd h1 (by decide)) | (exact absurd rfl ha) | (rcases ht with rfl | rfl | rfl | rfl | rfl <;> (simp [hn, hasTo, hasText, tyOk]; omega))
end Hearth
namespace Hearth
end Hearth
namespace Hearth
theorem rdata_soa' {r : Rr} (h : rrOk r = true) (ht : r.ty = 6) : r.nums.length = 2 ∧ 0 ≤ r.nums.getD 0 0 ∧ r.nums.getD 0 0 < 4294967296 := by
 unfold rrOk at h
 simp only [Bool.and_eq_true, decide_eq_true_eq] at h
 obtain ⟨_, h4⟩ := h
 unfold dataOk at h4
 simp only [Bool.and_eq_true] at h4
 have k1 := h4.1.1.1
 rw [if_pos (by simpa using ht)] at k1
 unfold numsOk at k1
 split at k1
 ·rename_i hl
  have hl' : r.nums.length = 2 := by omega
  refine ⟨hl', ?_⟩
  simp only [Bool.and_eq_true, decide_eq_true_eq] at k1
  have := k1.1
  unfold isW at this
  simp only [Bool.and_eq_true, decide_eq_true_eq] at this
  rw [List.getD_eq_getElem?_getD, List.getElem?_eq_getElem (by omega)]
  exact this
 ·cases k1
end Hearth
namespace Hearth
end Hearth
namespace Hearth
open Go
section
variable {α : Type} {P : Program} {k : List It} {Q : Ex → St → Prop} {s : St} {d : Option Nat} {q : Bool} {r : T} {oi : Nat} {tags : List Nat} {f : α → List DV} {l : List α} {sz : Nat}
end
end Hearth

/- Records are in order: what orders are, and zones as lists in order. -/
namespace Hearth
open Go
structure Cmp {α : Type} (c : α → α → Int) : Prop where
 neg : ∀ a b, c b a = - c a b
 tr : ∀ a b d, c a b ≤ 0 → c b d ≤ 0 → c a d ≤ 0
namespace Cmp
variable {α β : Type} {c c1 c2 : α → α → Int}
theorem lt_le (h : Cmp c) {a b d : α} (h1 : c a b < 0) (h2 : c b d ≤ 0) : c a d < 0 := by
 have h3 := h.tr a b d (by omega) h2
 rcases Int.lt_or_le (c a d) 0 with h4 | h4
 ·exact h4
 ·have e := h.neg a d
  have := h.tr b d a h2 (by omega)
  have e2 := h.neg a b
  omega
theorem le_lt (h : Cmp c) {a b d : α} (h1 : c a b ≤ 0) (h2 : c b d < 0) : c a d < 0 := by
 have h3 := h.tr a b d h1 (by omega)
 rcases Int.lt_or_le (c a d) 0 with h4 | h4
 ·exact h4
 ·have e := h.neg a d
  have := h.tr d a b (by omega) h1
  have e2 := h.neg b d
  omega
theorem lt (h : Cmp c) {a b d : α} (h1 : c a b < 0) (h2 : c b d < 0) : c a d < 0 := h.lt_le h1 (by omega)
theorem zero_both (h : Cmp c) {a b d : α} (h1 : c a b ≤ 0) (h2 : c b d ≤ 0) (h3 : c a d = 0) : c a b = 0 ∧ c b d = 0 := by
 rcases Int.lt_or_le (c a b) 0 with h4 | h4
 ·have := h.lt_le h4 h2; omega
 ·rcases Int.lt_or_le (c b d) 0 with h5 | h5
  ·have := h.le_lt h1 h5; omega
  ·exact ⟨by omega, by omega⟩
theorem lex (h1 : Cmp c1) (h2 : Cmp c2) : Cmp (fun a b => if c1 a b = 0 then c2 a b else c1 a b) := by
 refine ⟨fun a b => ?_, fun a b d g1 g2 => ?_⟩
 ·have e1 := h1.neg a b
  have e2 := h2.neg a b
  show (if c1 b a = 0 then c2 b a else c1 b a) = - (if c1 a b = 0 then c2 a b else c1 a b)
  by_cases h : c1 a b = 0
  ·rw [if_pos h, if_pos (by omega)]; exact e2
  ·rw [if_neg h, if_neg (by omega)]; exact e1
 ·have g1 : (if c1 a b = 0 then c2 a b else c1 a b) ≤ 0 := g1
  have g2 : (if c1 b d = 0 then c2 b d else c1 b d) ≤ 0 := g2
  show (if c1 a d = 0 then c2 a d else c1 a d) ≤ 0
  have k1 : c1 a b ≤ 0 := by
   by_cases h : c1 a b = 0
   ·omega
   ·rw [if_neg h] at g1; exact g1
  have k2 : c1 b d ≤ 0 := by
   by_cases h : c1 b d = 0
   ·omega
   ·rw [if_neg h] at g2; exact g2
  by_cases h : c1 a d = 0
  ·obtain ⟨z1, z2⟩ := h1.zero_both k1 k2 h
   rw [if_pos z1] at g1
   rw [if_pos z2] at g2
   rw [if_pos h]
   exact h2.tr a b d g1 g2
  ·rw [if_neg h]; exact h1.tr a b d k1 k2
theorem comap (h : Cmp c) (f : β → α) : Cmp (fun a b => c (f a) (f b)) := ⟨fun a b => h.neg _ _, fun a b d => h.tr _ _ _⟩
end Cmp
theorem bl_trans : ∀ {a b c : List UInt8}, Op.bytesLess a b = true → Op.bytesLess b c = true → Op.bytesLess a c = true
 | a, [], _, h, _ => by cases a <;> simp [Op.bytesLess] at h
 | _, b :: _, [], _, h => by simp [Op.bytesLess] at h
 | [], b :: x, c :: y, _, _ => rfl
 | a :: z, b :: x, c :: y, h1, h2 => by
  simp only [Op.bytesLess, Bool.or_eq_true, decide_eq_true_eq, Bool.and_eq_true, beq_iff_eq] at *
  rcases h1 with h1 | ⟨rfl, h1⟩ <;> rcases h2 with h2 | ⟨rfl, h2⟩
  ·exact .inl (UInt8.lt_trans h1 h2)
  ·exact .inl h1
  ·exact .inl h2
  ·exact .inr ⟨rfl, bl_trans h1 h2⟩
theorem bl_total : ∀ (a b : List UInt8), Op.bytesLess a b = true ∨ a = b ∨ Op.bytesLess b a = true
 | [], [] => .inr (.inl rfl)
 | [], _ :: _ => .inl rfl
 | _ :: _, [] => .inr (.inr rfl)
 | a :: x, b :: y => by
  simp only [Op.bytesLess, Bool.or_eq_true, decide_eq_true_eq, Bool.and_eq_true, beq_iff_eq]
  rcases (show a < b ∨ a = b ∨ b < a by
   rcases Nat.lt_trichotomy a.toNat b.toNat with h | h | h
   ·exact .inl (UInt8.lt_iff_toNat_lt.2 h)
   ·exact .inr (.inl (UInt8.toNat_inj.1 h))
   ·exact .inr (.inr (UInt8.lt_iff_toNat_lt.2 h))) with h | h | h
  ·exact .inl (.inl h)
  ·subst h
   rcases bl_total x y with h | h | h
   ·exact .inl (.inr ⟨rfl, h⟩)
   ·subst h; exact .inr (.inl rfl)
   ·exact .inr (.inr (.inr ⟨rfl, h⟩))
  ·exact .inr (.inr (.inl h))
theorem bl_asymm {a b : List UInt8} (h : Op.bytesLess a b = true) : Op.bytesLess b a = false := by
 cases e : Op.bytesLess b a with
 | false => rfl
 | true => have := bl_trans h e; rw [bytesLess_irrefl] at this; cases this
theorem cmpB_lt {a b : List UInt8} (h : Op.bytesLess a b = true) : cmpB a b = -1 := by unfold cmpB; rw [if_pos h]
theorem cmpB_gt {a b : List UInt8} (h : Op.bytesLess b a = true) : cmpB a b = 1 := by
 have h1 := bl_asymm h
 have hne : a ≠ b := by rintro rfl; rw [bytesLess_irrefl] at h; cases h
 unfold cmpB; rw [if_neg (by simp [h1]), if_pos (by simp [h1, hne])]
theorem cmpB_self (a : List UInt8) : cmpB a a = 0 := (cmpB_iff a a).2 rfl
theorem cmpB_cmp : Cmp cmpB := by
 refine ⟨fun a b => ?_, fun a b d h1 h2 => ?_⟩
 ·rcases bl_total a b with h | h | h
  ·rw [cmpB_lt h, cmpB_gt h]; rfl
  ·subst h; rw [cmpB_self]; rfl
  ·rw [cmpB_lt h, cmpB_gt h]
 ·rcases bl_total a b with h | h | h
  ·rcases bl_total b d with g | g | g
   ·rw [cmpB_lt (bl_trans h g)]; decide
   ·subst g; rw [cmpB_lt h]; decide
   ·rw [cmpB_gt g] at h2; omega
  ·subst h; exact h2
  ·rw [cmpB_gt h] at h1; omega
theorem cmpL_neg : ∀ (a b : List (List UInt8)), cmpL b a = - cmpL a b
 | [], [] => rfl
 | [], _ :: _ => rfl
 | _ :: _, [] => rfl
 | x :: a, y :: b => by
  have h := cmpB_cmp.neg x y
  simp only [cmpL]
  by_cases e : cmpB x y = 0
  ·rw [if_pos e, if_pos (by omega)]; exact cmpL_neg a b
  ·rw [if_neg e, if_neg (by omega)]; exact h
theorem cmpL_tr : ∀ (a b d : List (List UInt8)), cmpL a b ≤ 0 → cmpL b d ≤ 0 → cmpL a d ≤ 0
 | [], _, [], _, _ => by simp [cmpL]
 | [], _, _ :: _, _, _ => by simp [cmpL]
 | _ :: _, [], _, h, _ => by simp [cmpL] at h
 | _ :: _, _ :: _, [], _, h => by simp [cmpL] at h
 | x :: a, y :: b, z :: d, h1, h2 => by
  simp only [cmpL] at *
  have k1 : cmpB x y ≤ 0 := by
   by_cases h : cmpB x y = 0
   ·omega
   ·rw [if_neg h] at h1; exact h1
  have k2 : cmpB y z ≤ 0 := by
   by_cases h : cmpB y z = 0
   ·omega
   ·rw [if_neg h] at h2; exact h2
  by_cases h : cmpB x z = 0
  ·obtain ⟨z1, z2⟩ := cmpB_cmp.zero_both k1 k2 h
   rw [if_pos z1] at h1
   rw [if_pos z2] at h2
   rw [if_pos h]
   exact cmpL_tr a b d h1 h2
  ·rw [if_neg h]; exact cmpB_cmp.tr _ _ _ k1 k2
theorem cmpN_cmp : Cmp cmpN := (Cmp.mk cmpL_neg cmpL_tr).comap List.reverse
theorem cmpI_cmp : Cmp cmpI := by
 refine ⟨fun a b => ?_, fun a b d h1 h2 => ?_⟩
 ·unfold cmpI; split <;> split <;> omega
 ·unfold cmpI at *
  split at h1 <;> split at h2 <;> (try split at h1) <;> (try split at h2) <;> split <;> (try split) <;> omega
theorem cmpR_cmp : Cmp cmpR := (cmpN_cmp.comap Rr.name).lex ((cmpI_cmp.comap Rr.ty).lex (cmpB_cmp.comap rdata))
def Sorted (l : List Rr) : Prop := l.Pairwise fun a b => cmpR a b < 0
theorem sorted_of_prev {l : List Rr} (h : ∀ i < l.length, prevB l i = true) : Sorted l := by
 have step : ∀ i (hi : i + 1 < l.length), cmpR l[i] l[i + 1] < 0 := by
  intro i hi
  have := h (i + 1) hi
  unfold prevB at this
  rw [dif_pos ⟨by omega, hi⟩] at this
  simpa using this
 have far : ∀ (k i : Nat) (hk : i + k + 1 < l.length), cmpR l[i] l[i + k + 1] < 0 := by
  intro k
  induction k with
  | zero => intro i hk; exact step i hk
  | succ k ih =>
   intro i hk
   exact cmpR_cmp.lt (ih i (by omega)) (step (i + k + 1) (by omega))
 unfold Sorted
 rw [List.pairwise_iff_getElem]
 intro i j hi hj hij
 have := far (j - i - 1) i (by omega)
 have e : i + (j - i - 1) + 1 = j := by omega
 simp only [e] at this
 exact this
theorem prev_of_sorted {l : List Rr} (h : Sorted l) (i : Nat) : prevB l i = true := by
 unfold prevB
 split
 ·rename_i hi
  unfold Sorted at h
  rw [List.pairwise_iff_getElem] at h
  exact decide_eq_true (h (i - 1) i (by omega) hi.2 (by omega))
 ·rfl
structure ZoneP (z : Zone) : Prop where
 o : nameOk z.origin = true
 len : z.rrs.length ≤ 60
 ok : ∀ r ∈ z.rrs, rrOk r = true
 sorted : Sorted z.rrs
 under : ∀ r ∈ z.rrs, underN r.name z.origin = true
 top : ∀ r ∈ z.rrs, r.ty = 6 → r.name = z.origin
 alone : ∀ r ∈ z.rrs, r.ty = 5 → (setOf z.rrs r.name 255).length ≤ 1
 one : zTops z.rrs = 1
theorem zoneP {z : Zone} : zoneOk z = true ↔ ZoneP z := by
 constructor
 ·intro h
  have hm := zone_rrs h
  unfold zoneOk at h
  simp only [Bool.and_eq_true, decide_eq_true_eq, List.all_eq_true, List.mem_range] at h
  obtain ⟨⟨⟨⟨h1, h2⟩, h3⟩, h4⟩, h5⟩ := h
  have at_ : ∀ i (hi : i < z.rrs.length), underN z.rrs[i].name z.origin = true ∧ prevB z.rrs i = true ∧ aloneR z.rrs i = true ∧ (z.rrs[i].ty = 6 → z.rrs[i].name = z.origin) := by
   intro i hi
   have := h4 i hi
   rw [zAt_eq hi] at this
   simp only [Bool.and_eq_true, Bool.or_eq_true, Bool.not_eq_true', beq_eq_false_iff_ne, decide_eq_true_eq] at this
   exact ⟨this.1.1.1, this.1.1.2, this.1.2, fun e => this.2.resolve_left fun h => h e⟩
  refine ⟨h1, h2, hm, sorted_of_prev fun i hi => (at_ i hi).2.1, fun r hr => ?_, fun r hr => ?_, fun r hr h5 => ?_, h5⟩
  ·obtain ⟨i, hi, rfl⟩ := List.mem_iff_getElem.1 hr
   exact (at_ i hi).1
  ·obtain ⟨i, hi, rfl⟩ := List.mem_iff_getElem.1 hr
   exact (at_ i hi).2.2.2
  ·obtain ⟨i, hi, rfl⟩ := List.mem_iff_getElem.1 hr
   have := (at_ i hi).2.2.1
   rw [aloneR_eq hi] at this
   simpa [h5] using this
 ·intro h
  unfold zoneOk
  simp only [Bool.and_eq_true, decide_eq_true_eq, List.all_eq_true, List.mem_range]
  refine ⟨⟨⟨⟨h.o, h.len⟩, h.ok⟩, fun i hi => ?_⟩, h.one⟩
  rw [zAt_eq hi]
  have hr := List.getElem_mem hi
  simp only [Bool.and_eq_true, Bool.or_eq_true, Bool.not_eq_true', beq_eq_false_iff_ne, decide_eq_true_eq]
  refine ⟨⟨⟨h.under _ hr, prev_of_sorted h.sorted i⟩, ?_⟩, ?_⟩
  ·rw [aloneR_eq hi]
   by_cases e : z.rrs[i].ty = 5
   ·simp [e, h.alone _ hr e]
   ·simp [e]
  ·by_cases e : z.rrs[i].ty = 6
   ·exact .inr (h.top _ hr e)
   ·exact .inl e
end Hearth
namespace Hearth
end Hearth
namespace Hearth
end Hearth
namespace Hearth
def same1 (a b : List Rr) (i : Nat) : Bool := if h : i < a.length ∧ i < b.length then sameR (a[i]'h.1) (b[i]'h.2) && ((a[i]'h.1).ttl == (b[i]'h.2).ttl) else true
def sameRs (a b : List Rr) : Bool := decide (a.length = b.length) && (List.range a.length).all (same1 a b)
theorem same1_eq {a b : List Rr} {i : Nat} (h : i < a.length) (h' : i < b.length) : same1 a b i = (sameR a[i] b[i] && (a[i].ttl == b[i].ttl)) := by
 unfold same1; rw [dif_pos ⟨h, h'⟩]
theorem sameRs_no {a b : List Rr} {i : Nat} (h : i < a.length) (hf : same1 a b i = false) : sameRs a b = false := by
 unfold sameRs
 have : (List.range a.length).all (same1 a b) = false := by
  rw [List.all_eq_false]; exact ⟨i, List.mem_range.2 h, by simp [hf]⟩
 rw [this]; simp
theorem sameRs_yes {a b : List Rr} (hl : a.length = b.length) (h : ∀ i < a.length, same1 a b i = true) : sameRs a b = true := by
 unfold sameRs
 simp only [Bool.and_eq_true, decide_eq_true_eq, List.all_eq_true, List.mem_range]
 exact ⟨hl, h⟩
theorem sameRs_refl {a : List Rr} (h : ∀ r ∈ a, rrOk r = true) : sameRs a a = true :=
 sameRs_yes rfl fun i hi => by rw [same1_eq hi hi, sameR_refl (h _ (List.getElem_mem hi))]; simp
end Hearth
namespace Hearth
theorem mem_setOf {l : List Rr} {n : List (List UInt8)} {t : Int} {r : Rr} (h : r ∈ setOf l n t) : r ∈ l ∧ r.name = n ∧ (t = 255 ∨ r.ty = t) := by
 unfold setOf at h
 obtain ⟨h1, h2⟩ := List.mem_filter.1 h
 simp only [Bool.and_eq_true, decide_eq_true_eq, Bool.or_eq_true, beq_iff_eq] at h2
 exact ⟨h1, h2.1, h2.2⟩
theorem setOf_sub (l : List Rr) (n : List (List UInt8)) (t : Int) : (setOf l n t).length ≤ (setOf l n 255).length := by
 have e : setOf l n t = (setOf l n 255).filter fun r => (t == 255 || r.ty == t) := by
  unfold setOf
  rw [List.filter_filter]
  refine List.filter_congr fun r _ => ?_
  cases decide (r.name = n) <;> cases (t == 255 || r.ty == t) <;> rfl
 rw [e]
 exact List.length_filter_le _ _
theorem refAt_lt {z : Zone} {n m : List (List UInt8)} : ∀ {k : Nat}, refAt z n k = some m → ∃ j, j < k ∧ m = n.drop j ∧ 0 < (setOf z.rrs m 2).length
 | 0, h => by cases h
 | k + 1, h => by
  unfold refAt at h
  split at h
  ·rename_i h0
   cases h
   exact ⟨k, by omega, rfl, h0⟩
  ·obtain ⟨j, h1, h2, h3⟩ := refAt_lt h
   exact ⟨j, by omega, h2, h3⟩
theorem look_cases {z : Zone} {n : List (List UInt8)} {t : Int} (hz : zoneOk z = true) (hn : nameOk n = true) :
  ((lookN z n t).2 = 0 ∧ (lookN z n t).1 = setN z n t ∧ 0 < (lookN z n t).1.length) ∨ ((lookN z n t).2 = 1 ∧ ∃ r, (lookN z n t).1 = [r] ∧ r.ty = 5 ∧ r.name = n) ∨
  ((lookN z n t).2 = 2 ∧ ∃ r l, (lookN z n t).1 = r :: l ∧ r.ty = 2 ∧ underN n r.name = true ∧ r.name ≠ z.origin ∧ nameOk r.name = true) ∨
  ((lookN z n t).2 = 3 ∧ (lookN z n t).1 = [] ∧ hasN z n = true ∧ setN z n t = []) ∨ ((lookN z n t).2 = 4 ∧ (lookN z n t).1 = [] ∧ hasN z n = false) ∨ ((lookN z n t).2 = 5 ∧ (lookN z n t).1 = []) := by
 have hzp := zoneP.1 hz
 have hset : setN z n t = setOf z.rrs n t := by unfold setN; rw [if_pos (by simp [hz, hn])]
 unfold lookN
 by_cases ha : askedT t = true
 ·rw [if_pos (by simp [hz, hn, ha])]
  by_cases hu : underN n z.origin = true
  ·cases hr : refAt z n (n.length - z.origin.length) with
   | some m =>
    rw [lookup_ref hu hr]
    obtain ⟨j, h1, h2, h3⟩ := refAt_lt hr
    right; right; left
    refine ⟨rfl, ?_⟩
    simp only
    match hs : setOf z.rrs m 2 with
    | [] => rw [hs] at h3; simp at h3
    | r :: l =>
     obtain ⟨g1, g2, g3⟩ := mem_setOf (l := z.rrs) (n := m) (t := 2) (r := r) (by rw [hs]; exact List.mem_cons_self ..)
     have hrn := rrOk_name (hzp.ok r g1)
     refine ⟨r, l, rfl, by omega, ?_, ?_, hrn⟩
     ·rw [g2, h2]
      unfold underN
      have : n.length - (n.drop j).length = j := by simp; omega
      rw [this]
      simp
     ·intro e
      have := congrArg List.length e
      rw [g2, h2] at this
      simp at this
      omega
   | none =>
    rw [lookup_none hu hr]
    by_cases c1 : 0 < (setOf z.rrs n t).length
    ·rw [if_pos c1]
     exact .inl ⟨rfl, hset.symm, c1⟩
    ·rw [if_neg c1]
     have c1' : setOf z.rrs n t = [] := List.eq_nil_of_length_eq_zero (by omega)
     by_cases c2 : 0 < (setOf z.rrs n 5).length
     ·rw [if_pos c2]
      right; left
      refine ⟨rfl, ?_⟩
      simp only
      match hs : setOf z.rrs n 5 with
      | [] => rw [hs] at c2; simp at c2
      | r :: l =>
       obtain ⟨g1, g2, g3⟩ := mem_setOf (l := z.rrs) (n := n) (t := 5) (r := r) (by rw [hs]; exact List.mem_cons_self ..)
       have h5 : r.ty = 5 := by omega
       have h1 := hzp.alone r g1 h5
       have h2 := setOf_sub z.rrs n 5
       rw [g2] at h1
       rw [hs] at h2
       simp only [List.length_cons] at h2
       have : l = [] := List.eq_nil_of_length_eq_zero (by omega)
       exact ⟨r, by rw [this], h5, g2⟩
     ·rw [if_neg c2]
      cases hh : hasN z n
      ·exact .inr (.inr (.inr (.inr (.inl ⟨by simp, rfl, rfl⟩))))
      ·exact .inr (.inr (.inr (.inl ⟨by simp, rfl, rfl, by rw [hset]; exact c1'⟩)))
  ·rw [lookup_out (by simpa using hu)]
   exact .inr (.inr (.inr (.inr (.inr ⟨rfl, rfl⟩))))
 ·rw [if_neg (by simp [ha])]
  exact .inr (.inr (.inr (.inr (.inr ⟨rfl, rfl⟩))))
theorem under_nil (a : List (List UInt8)) : underN a [] = true := by simp [underN]
end Hearth

/- Messages: questions, records that are wanted, what they are written as. -/
namespace Hearth
open Go
structure Want where
 rr : Rr
 cls : Int
 bare : Bool
 deriving DecidableEq
def Want.cells (w : Want) : List DV := [encBB w.rr.name, .sc (.int .i64 w.rr.ty), .sc (.int .i64 w.rr.ttl), .sc (.int .i64 w.rr.addr), encBB w.rr.to, encB w.rr.text, encI w.rr.nums, .sc (.int .i64 w.cls), .sc (.bool w.bare)]
abbrev encW (l : List Want) : DV := encL 9 Want.cells l
structure SmallW (w : Want) : Prop where
 r : SmallR w.rr
structure SmallWs (l : List Want) : Prop where
 len : l.length ≤ 4194304
 mem : ∀ w ∈ l, SmallW w
structure Msg where
 id : Int
 reply : Bool
 op : Int
 auth : Bool
 code : Int
 qs : List Qn
 an : List Rr
 au : List Rr
 mo : List Rr
 pr : List Want
 up : List Want
 deriving DecidableEq
def Msg.cells (m : Msg) : List DV := [.sc (.int .i64 m.id), .sc (.bool m.reply), .sc (.int .i64 m.op), .sc (.bool m.auth), .sc (.int .i64 m.code), encQ m.qs, encR m.an, encR m.au, encR m.mo, encW m.pr, encW m.up]
structure SmallM (m : Msg) : Prop where
 q : SmallQs m.qs
 a : SmallRs m.an
 b : SmallRs m.au
 c : SmallRs m.mo
 p : SmallWs m.pr
 u : SmallWs m.up
def wantOk (w : Want) : Bool :=
 if w.cls ≠ 1 ∧ w.cls ≠ 254 ∧ w.cls ≠ 255 then false
 else if w.bare then !(w.cls == 1) && nameOk w.rr.name && askedT w.rr.ty && w.rr.ttl == 0 && w.rr.addr == 0 && w.rr.to.isEmpty && w.rr.text.isEmpty && w.rr.nums.isEmpty
 else !(w.cls == 255) && rrOk w.rr && (w.cls == 1 || w.rr.ttl == 0)
def wantsOk (l : List Want) : Bool := decide ((l.length : Int) ≤ 12) && l.all wantOk
def msgMay (m : Msg) : Bool :=
 (decide (0 ≤ m.id) && decide (m.id ≤ 65535)) && (decide (0 ≤ m.code) && decide (m.code ≤ 10)) && (decide (m.qs.length = 1) && nameOk (m.qs.getD 0 ⟨[], 0⟩).name && askedT (m.qs.getD 0 ⟨[], 0⟩).ty) &&
 (rrsOk m.an && rrsOk m.au && rrsOk m.mo && wantsOk m.pr && wantsOk m.up) &&
 (if m.op = 0 then decide (m.pr.length + m.up.length = 0) else if m.op = 5 then (m.qs.getD 0 ⟨[], 0⟩).ty == 6 && decide (m.an.length + m.au.length + m.mo.length = 0) else false)
theorem wireN_small {n : List (List UInt8)} (h : nameOk n = true) : (wireN n).length ≤ 97 := by
 have h1 := nameOk_len h
 have h2 := nameOk_flat h
 rw [wireN_len]; omega
theorem rdata_small {r : Rr} (h : rrOk r = true) : (rdata r).length ≤ 200 := by
 by_cases h1 : r.ty = 1
 ·rw [rdata_A h1]; simp [w4]
 ·have hk := h
  unfold rrOk dataOk at hk
  simp only [Bool.and_eq_true] at hk
  obtain ⟨_, ⟨⟨_, _⟩, hto⟩, htx⟩ := hk
  by_cases h2 : hasTo r.ty = true
  ·rw [rdata_to h1 h2, List.length_append, w4s_len]
   rw [if_pos h2] at hto
   have h3 := wireN_small hto
   by_cases h6 : r.ty = 6
   ·have := (rdata_soa' h h6).1; omega
   ·have := rdata_nm h h6; rw [this]; simp; omega
  ·have h2' : hasTo r.ty = false := by simpa using h2
   rw [rdata_text h1 h2']
   split at htx
   ·simp at htx ⊢; omega
   ·simp at htx; rw [htx]; simp
def rrB (r : Rr) (c : Int) : List UInt8 := wireN r.name ++ w2 r.ty ++ w2 c ++ w4 r.ttl ++ w2 ((rdata r).length : Int) ++ rdata r
def wantB (w : Want) : List UInt8 := if w.bare then wireN w.rr.name ++ w2 w.rr.ty ++ w2 w.cls ++ w4 0 ++ w2 0 else rrB w.rr w.cls
theorem w2_len (n : Int) : (w2 n).length = 2 := rfl
theorem rrB_len (r : Rr) (c : Int) : (rrB r c).length = (wireN r.name).length + 10 + (rdata r).length := by
 simp only [rrB, List.length_append, w2_len, w4_len]
theorem rrB_small {r : Rr} (h : rrOk r = true) (c : Int) : (rrB r c).length ≤ 307 := by
 have h1 := rdata_small h
 have h2 : nameOk r.name = true := by unfold rrOk at h; simp only [Bool.and_eq_true] at h; exact h.1.1.1
 have h3 := wireN_small h2
 rw [rrB_len]; omega
theorem want_bare {w : Want} (h : wantOk w = true) (hb : w.bare = true) : nameOk w.rr.name = true ∧ askedT w.rr.ty = true := by
 unfold wantOk at h
 split at h
 ·cases h
 ·try rw [if_pos hb] at h
  simp only [Bool.and_eq_true] at h
  exact ⟨h.1.1.1.1.1.1.2, h.1.1.1.1.1.2⟩
 all_goals simp_all
theorem want_rr {w : Want} (h : wantOk w = true) (hb : w.bare = false) : rrOk w.rr = true := by
 unfold wantOk at h
 split at h
 ·cases h
 ·rw [if_neg (by simp [hb])] at h
  simp only [Bool.and_eq_true] at h
  exact h.1.2
theorem wantB_small {w : Want} (h : wantOk w = true) : (wantB w).length ≤ 307 := by
 unfold wantB
 split
 ·rename_i hb
  have h3 := wireN_small (want_bare h hb).1
  simp only [List.length_append, w2_len, w4_len]; omega
 ·rename_i hb
  exact rrB_small (want_rr h (by simpa using hb)) _
theorem tyOk_rng {t : Int} (h : tyOk t = true) : 0 ≤ t ∧ t ≤ 49 := by
 unfold tyOk at h; simp at h; omega
theorem askedT_rng {t : Int} (h : askedT t = true) : 0 ≤ t ∧ t ≤ 255 := by
 unfold askedT at h
 simp only [Bool.or_eq_true] at h
 rcases h with h | h
 ·have := tyOk_rng h; omega
 ·simp at h; omega
theorem rrOk_ty {r : Rr} (h : rrOk r = true) : 0 ≤ r.ty ∧ r.ty ≤ 49 ∧ 0 ≤ r.ttl ∧ r.ttl ≤ 100000 ∧ nameOk r.name = true := by
 unfold rrOk at h
 simp only [Bool.and_eq_true, decide_eq_true_eq] at h
 have := tyOk_rng h.1.1.2
 exact ⟨this.1, this.2, h.1.2.1, h.1.2.2, h.1.1.1⟩
def headB (m : Msg) (f a b : Int) : List UInt8 := w2 m.id ++ w2 f ++ w2 1 ++ w2 a ++ w2 b ++ w2 m.mo.length ++ wireN (m.qs.getD 0 ⟨[], 0⟩).name ++ w2 (m.qs.getD 0 ⟨[], 0⟩).ty ++ w2 1
def msgB (m : Msg) (f a b : Int) : List UInt8 := headB m f a b ++ m.pr.flatMap wantB ++ m.up.flatMap wantB ++ (m.an ++ m.au ++ m.mo).flatMap fun r => rrB r 1
def msgLen (m : Msg) : Nat := (msgB m 0 0 0).length
theorem headB_len (m : Msg) (f a b : Int) : (headB m f a b).length = 16 + (wireN (m.qs.getD 0 ⟨[], 0⟩).name).length := by
 simp only [headB, List.length_append, w2_len]; omega
theorem msgB_len (m : Msg) (f a b : Int) : (msgB m f a b).length = msgLen m := by
 unfold msgLen msgB
 simp only [List.length_append, headB_len]
def msgOk (m : Msg) : Bool := msgMay m && decide (msgLen m ≤ 512)
theorem flatMap_le {α β : Type} {f : α → List β} {k : Nat} : ∀ {l : List α}, (∀ x ∈ l, (f x).length ≤ k) → (l.flatMap f).length ≤ l.length * k
 | [], _ => by simp
 | x :: l, h => by
  have h1 := h x (List.mem_cons_self ..)
  have h2 := flatMap_le (f := f) (l := l) fun y hy => h y (List.mem_cons_of_mem _ hy)
  simp only [List.flatMap_cons, List.length_append, List.length_cons, Nat.add_mul]; omega
theorem flatMap_take_le {α β : Type} (f : α → List β) (l : List α) (i : Nat) : ((l.take i).flatMap f).length ≤ (l.flatMap f).length := by
 have := congrArg (fun x => (x.flatMap f).length) (List.take_append_drop i l)
 simp only [List.flatMap_append, List.length_append] at this
 omega
structure MayP (m : Msg) : Prop where
 id : 0 ≤ m.id ∧ m.id ≤ 65535
 cd : 0 ≤ m.code ∧ m.code ≤ 10
 q1 : m.qs.length = 1
 qn : nameOk (m.qs.getD 0 ⟨[], 0⟩).name = true
 qt : 0 ≤ (m.qs.getD 0 ⟨[], 0⟩).ty ∧ (m.qs.getD 0 ⟨[], 0⟩).ty ≤ 255
 an : m.an.length ≤ 12 ∧ ∀ r ∈ m.an, rrOk r = true
 au : m.au.length ≤ 12 ∧ ∀ r ∈ m.au, rrOk r = true
 mo : m.mo.length ≤ 12 ∧ ∀ r ∈ m.mo, rrOk r = true
 pr : m.pr.length ≤ 12 ∧ ∀ w ∈ m.pr, wantOk w = true
 up : m.up.length ≤ 12 ∧ ∀ w ∈ m.up, wantOk w = true
 op : m.op = 0 ∧ m.pr = [] ∧ m.up = [] ∨ m.op = 5 ∧ m.an = [] ∧ m.au = [] ∧ m.mo = []
theorem rrsOk_p {l : List Rr} (h : rrsOk l = true) : l.length ≤ 12 ∧ ∀ r ∈ l, rrOk r = true := by
 unfold rrsOk at h
 simp only [Bool.and_eq_true, decide_eq_true_eq] at h
 exact ⟨by omega, List.all_eq_true.1 h.2⟩
theorem wantsOk_p {l : List Want} (h : wantsOk l = true) : l.length ≤ 12 ∧ ∀ r ∈ l, wantOk r = true := by
 unfold wantsOk at h
 simp only [Bool.and_eq_true, decide_eq_true_eq] at h
 exact ⟨by omega, List.all_eq_true.1 h.2⟩
theorem MayP.of {m : Msg} (h : msgMay m = true) : MayP m := by
 unfold msgMay at h
 simp only [Bool.and_eq_true, decide_eq_true_eq] at h
 obtain ⟨⟨⟨⟨h1, h2⟩, ⟨h3, h4⟩, h5⟩, ⟨⟨⟨h6, h7⟩, h8⟩, h9⟩, h10⟩, h11⟩ := h
 refine ⟨h1, h2, h3, h4, askedT_rng h5, rrsOk_p h6, rrsOk_p h7, rrsOk_p h8, wantsOk_p h9, wantsOk_p h10, ?_⟩
 split at h11
 ·rename_i e
  simp only [decide_eq_true_eq] at h11
  exact .inl ⟨e, List.eq_nil_of_length_eq_zero (by omega), List.eq_nil_of_length_eq_zero (by omega)⟩
 ·split at h11
  ·rename_i e
   simp only [Bool.and_eq_true, decide_eq_true_eq] at h11
   exact .inr ⟨e, List.eq_nil_of_length_eq_zero (by omega), List.eq_nil_of_length_eq_zero (by omega), List.eq_nil_of_length_eq_zero (by omega)⟩
  ·cases h11
section
variable {P : Program} {k : List It} {Q : Ex → St → Prop} {s : St} {r : T} {d : Option Nat} {q : Bool} {oi : Nat} {tags : List Nat}
theorem kShl11 {x y : X} {a : Int} (hx : s.ev x = .vv (.int .i64 a)) (hy : s.ev y = .vv (.int .u64 11)) (hb : 0 ≤ a ∧ a ≤ 65535) (h : kont P (.t r tags :: k) Q .normal (s.put d (.i (a * 2048)))) :
  kont P (.t (.op oi [] d none q (.bin .shl x y) r) tags :: k) Q .normal s :=
 kBin (v := .int .i64 (a * 2048)) hx hy (by
  simp only [evBin]
  rw [if_neg (by decide), show ((2 : Int) ^ (min (11 : Int).toNat IntKind.i64.bits)) = 2048 by decide, wrap64 (by omega)]) h
end
theorem Sub.renSlot {s : St} (j id1 id2 : Nat) {v1 e1 v2 e2 : Nat} {k2 : OK} {dp : Bool} {x : DV} (hj : s.sl j = .c (.arr id1 v1)) (h1 : s.ob id1 = ⟨v1, e1, .arr dp x⟩) (h2 : s.ob id2 = ⟨v2, e2, k2⟩) (hne : (!(Nat.beq id2 id1) && !(Nat.beq id2 alien)) = true) :
  Sub s ⟨upd s.sl j (.c (.arr id2 (v2 + 1))), upd (upd s.ob id1 ⟨v1 + 1, 0, .dead⟩) id2 ⟨v2 + 1, 0, .arr dp x⟩, []⟩ := by
 simp only [Bool.and_eq_true, Bool.not_eq_true'] at hne
 obtain ⟨hne3, hal⟩ := hne
 have hne3 := Nat.ne_of_beq_eq_false hne3
 have hal := Nat.ne_of_beq_eq_false hal
 rintro P N w0 own0 hdr0 a w ⟨own, hdr, r⟩
 obtain ⟨a1, a2⟩ := r.arrAt (id := id1) (dp := dp) (x := x) (by rw [h1])
 have hal1 : id1 ≠ alien := r.ne_al (by rw [h1]; simp)
 have ht := r.tmps j
 rw [hj] at ht
 have hv : a.tmps.getD j undef = hdr id1 := ht.2 (by rw [h1])
 have own1 : ∀ c, own id1 c → c < w.heap.size := fun c hc => r.lt id1 c hc
 have h := (r.hold []).make (id := id2) (ids := [id1]) (k := .arr dp x) (F := own id1) (v := hdr id1) (w' := w) ⟨hal, by simpa using Ne.symm hal1⟩ (by simp) (by simp) (by simpa using hne3) (Ext.refl _ _)
  (fun c hc => ⟨own1 c hc, .inr ⟨id1, .inr (by simp), hc⟩⟩) (fun rc => by
  unfold RO
  rw [ob_new (by simpa using hne3)]
  refine ⟨a1, ?_⟩
  have e1 : hdrTo hdr id2 [id1] (hdr id1) id2 = hdr id1 := by simp [hdrTo]
  have e2 : ownTo own id2 [id1] (own id1) id2 = own id1 := by simp [ownTo]
  rw [e1, e2]
  refine a2.mono (fun h => h) (fun c hc => ⟨rfl, hc.1, fun i hi => ?_⟩) (fun c hc => ⟨rfl, hc⟩)
  simp only [ownTo] at hi
  split at hi
  ·exact hc.2 id1 hi
  ·split at hi
   ·exact hi
   ·exact hc.2 i hi)
 have hob0 : ((({ s with hold := [] } : St).kill [id1]).newOb id2 (.arr dp x)).ob = upd (upd s.ob id1 ⟨v1 + 1, 0, .dead⟩) id2 ⟨v2 + 1, 0, .arr dp x⟩ := by
  funext i
  simp only [St.newOb, St.setOb, St.kill, upd, List.mem_singleton]
  by_cases hi : i = id2
  ·simp only [hi, if_true, if_neg hne3, h2]
  ·simp only [if_neg hi]
   by_cases hi1 : i = id1
   ·simp only [hi1, if_true, h1]
   ·simp only [if_neg hi1]
 have hr := (h.1.same (d := j) (x := .c (.arr id2 (v2 + 1))) (by
  rw [hv]
  simp only [RS, RV1, RC]
  rw [hob0, upd_same]
  exact ⟨Nat.le_refl _, fun _ => by simp [hdrTo]⟩)).hold []
 have e : (({ ((({ s with hold := [] } : St).kill [id1]).newOb id2 (.arr dp x)).put (some j) (.c (.arr id2 (v2 + 1))) with hold := [] }) : St) = ⟨upd s.sl j (.c (.arr id2 (v2 + 1))), upd (upd s.ob id1 ⟨v1 + 1, 0, .dead⟩) id2 ⟨v2 + 1, 0, .arr dp x⟩, []⟩ := by
  rw [← hob0]
  rfl
 rw [← e]
 exact ⟨_, _, hr⟩
def orI (a b : Int) : Int := Go.IntKind.i64.wrap (((BitVec.ofInt Go.IntKind.i64.bits a ||| BitVec.ofInt Go.IntKind.i64.bits b).toNat : Nat) : Int)
def flagsI (m : Msg) : Int := if m.auth then orI (if m.reply then orI (orI (m.op * 2048) m.code) 32768 else orI (m.op * 2048) m.code) 1024 else (if m.reply then orI (orI (m.op * 2048) m.code) 32768 else orI (m.op * 2048) m.code)
theorem flat2 {α β : Type} (f : α → List β) (a b : List α) : ([a, b].flatten).flatMap f = a.flatMap f ++ b.flatMap f := by simp
theorem flat3 {α β : Type} (f : α → List β) (a b c : List α) : ([a, b, c].flatten).flatMap f = (a ++ b ++ c).flatMap f := by simp
theorem flat_step {α β : Type} (f : α → List β) (L : List (List α)) (i : Nat) (h : i < L.length) : ((L.take (i + 1)).flatten).flatMap f = ((L.take i).flatten).flatMap f ++ L[i].flatMap f := by
 rw [← List.take_append_getElem h, List.flatten_append, List.flatMap_append]; simp
theorem flat_inner0 {α β : Type} (f : α → List β) (L : List (List α)) (i : Nat) : (((L.take i).flatten).flatMap f).length ≤ (L.flatten.flatMap f).length := by
 have := congrArg (fun x => (x.flatten.flatMap f).length) (List.take_append_drop i L)
 simp only [List.flatten_append, List.flatMap_append, List.length_append] at this
 omega
theorem flat_inner {α β : Type} (f : α → List β) (L : List (List α)) (i j : Nat) (h : i < L.length) : (((L.take i).flatten).flatMap f ++ (L[i].take j).flatMap f).length ≤ (L.flatten.flatMap f).length := by
 have h1 := flatMap_take_le f L[i] j
 have h2 := flat_step f L i h
 have h3 : ((L.take (i + 1)).flatten.flatMap f).length ≤ (L.flatten.flatMap f).length := by
  have := congrArg (fun x => (x.flatten.flatMap f).length) (List.take_append_drop (i + 1) L)
  simp only [List.flatten_append, List.flatMap_append, List.length_append] at this
  omega
 rw [h2, List.length_append] at h3
 rw [List.length_append]
 omega
end Hearth

/- Answers of zones. -/
namespace Hearth
open Go
def glueZ (z : Zone) (l : List Rr) : List Rr := l.flatMap fun r => setOf z.rrs r.to 1
def zTopR (z : Zone) : Rr := z.rrs.getD (topIx z.rrs).toNat emptyR
def repM (m : Msg) (c : Int) : Msg := ⟨m.id, true, m.op, false, c, [m.qs.getD 0 ⟨[], 0⟩], [], [], [], [], []⟩
def ansGo (z : Zone) (t : Int) : Nat → Bool → Msg → List (List UInt8) → Msg
 | 0, _, o, _ => o
 | k + 1, f, o, n =>
  if (lookupN z n t).2 = 0 then { o with auth := true, an := o.an ++ (lookupN z n t).1 }
  else if (lookupN z n t).2 = 1 then ansGo z t k false { o with auth := true, an := o.an ++ (lookupN z n t).1 } ((lookupN z n t).1.getD 0 emptyR).to
  else if (lookupN z n t).2 = 2 then { o with au := (lookupN z n t).1, mo := o.mo ++ glueZ z (lookupN z n t).1 }
  else if (lookupN z n t).2 = 3 then { o with auth := true, au := [zTopR z] }
  else if (lookupN z n t).2 = 4 then { o with auth := true, au := [zTopR z], code := 3 }
  else if f then { o with code := 5 } else o
def ansRaw (z : Zone) (m : Msg) : Msg := ansGo z (m.qs.getD 0 ⟨[], 0⟩).ty 6 true (repM m 0) (m.qs.getD 0 ⟨[], 0⟩).name
def nothingM : Msg := ⟨0, false, 0, false, 0, [], [], [], [], [], []⟩
def ansM (z : Zone) (m : Msg) : Msg := if msgOk (ansRaw z m) then ansRaw z m else repM m 2
structure AnsP (z : Zone) (m : Msg) (k : Nat) (o : Msg) : Prop where
 id : o.id = m.id
 rp : o.reply = true
 op : o.op = m.op
 qs : o.qs = [m.qs.getD 0 ⟨[], 0⟩]
 an : o.an.length ≤ 60 * k ∧ ∀ r ∈ o.an, r ∈ z.rrs
 au : o.au = []
 mo : o.mo = []
 pr : o.pr = []
 up : o.up = []
 cd : o.code = 0
structure AnsE (z : Zone) (m : Msg) (o : Msg) : Prop where
 id : o.id = m.id
 rp : o.reply = true
 op : o.op = m.op
 qs : o.qs = [m.qs.getD 0 ⟨[], 0⟩]
 an : o.an.length ≤ 360 ∧ ∀ r ∈ o.an, r ∈ z.rrs
 au : o.au.length ≤ 60 ∧ ∀ r ∈ o.au, r ∈ z.rrs
 mo : o.mo.length ≤ 3600 ∧ ∀ r ∈ o.mo, r ∈ z.rrs
 pr : o.pr = []
 up : o.up = []
theorem want_small {w : Want} (h : wantOk w = true) : SmallW w := by
  cases hb : w.bare with
  | false => exact ⟨rrOk_small (want_rr h hb)⟩
  | true =>
   have hn := (want_bare h hb).1
   unfold wantOk at h
   split at h
   ·cases h
   ·simp only [Bool.and_eq_true, List.isEmpty_iff] at h
    exact ⟨⟨.ok hn, by rw [h.1.1.2]; exact .nil, by rw [h.1.2]; exact Nat.zero_le _, by rw [h.2]; exact Nat.zero_le _⟩⟩
theorem msgOk_small {m : Msg} (h : msgOk m = true) : SmallM m := by
 have hp := MayP.of (by unfold msgOk at h; simp only [Bool.and_eq_true] at h; exact h.1)
 have hw : ∀ w, wantOk w = true → SmallW w := fun w h => want_small h
 refine ⟨⟨by rw [hp.q1]; exact Nat.le_of_ble_eq_true rfl, fun q hq => ?_⟩, ⟨by have := hp.an.1; omega, fun r hr => rrOk_small (hp.an.2 r hr)⟩, ⟨by have := hp.au.1; omega, fun r hr => rrOk_small (hp.au.2 r hr)⟩, ⟨by have := hp.mo.1; omega, fun r hr => rrOk_small (hp.mo.2 r hr)⟩, ⟨by have := hp.pr.1; omega, fun r hr => hw r (hp.pr.2 r hr)⟩, ⟨by have := hp.up.1; omega, fun r hr => hw r (hp.up.2 r hr)⟩⟩
 obtain ⟨q0, he⟩ := List.length_eq_one_iff.1 hp.q1
 have hn := hp.qn
 rw [he] at hq hn
 simp only [List.mem_singleton] at hq
 rw [hq]; exact .ok hn
theorem zone_look {z : Zone} {n : List (List UInt8)} {t : Int} (hz : zoneOk z = true) : (lookupN z n t).1.length ≤ 60 ∧ ∀ r ∈ (lookupN z n t).1, r ∈ z.rrs := by
 obtain ⟨f, hf⟩ := lookup_filter z n t
 have := zoneOk_pos hz
 rw [hf]
 exact ⟨Nat.le_trans (List.length_filter_le _ _) this.2, fun r hr => (List.mem_filter.1 hr).1⟩
theorem look_codes (z : Zone) (n : List (List UInt8)) (t : Int) : (lookupN z n t).2 = 0 ∨ (lookupN z n t).2 = 1 ∨ (lookupN z n t).2 = 2 ∨ (lookupN z n t).2 = 3 ∨ (lookupN z n t).2 = 4 ∨ (lookupN z n t).2 = 5 := by
 unfold lookupN
 split
 ·split
  ·simp
  ·split
   ·simp
   ·split
    ·simp
    ·split <;> simp
 ·simp
theorem look_alias {z : Zone} {n : List (List UInt8)} {t : Int} (hz : zoneOk z = true) (hn : nameOk n = true) (ha : askedT t = true) (h : (lookupN z n t).2 = 1) : (lookupN z n t).1.length = 1 ∧ nameOk ((lookupN z n t).1.getD 0 emptyR).to = true := by
 have e : lookN z n t = lookupN z n t := by unfold lookN; rw [if_pos (by simp [hz, hn, ha])]
 have hc := look_cases (t := t) hz hn
 have hm := (zone_look (n := n) (t := t) hz).2
 rw [e] at hc
 rcases hc with ⟨h0, _⟩ | ⟨_, r, hr, h5, _⟩ | ⟨h0, _⟩ | ⟨h0, _⟩ | ⟨h0, _⟩ | ⟨h0, _⟩
 ·omega
 ·rw [hr] at hm ⊢
  refine ⟨rfl, ?_⟩
  have hk := zone_rrs hz r (hm r (List.mem_singleton.2 rfl))
  unfold rrOk dataOk at hk
  simp only [Bool.and_eq_true] at hk
  have := hk.2.1.2
  rw [if_pos (by rw [h5]; rfl)] at this
  exact this
 ·omega
 ·omega
 ·omega
 ·omega
theorem zTop_cut {z : Zone} (hz : zoneOk z = true) : [zTopR z] = ((z.rrs.drop (topIx z.rrs).toNat).take ((topIx z.rrs + 1).toNat - (topIx z.rrs).toNat)) := by
 have h := topIx_lt hz
 have e : (topIx z.rrs + 1).toNat - (topIx z.rrs).toNat = 1 := by omega
 rw [e, List.drop_eq_getElem_cons (by omega)]
 unfold zTopR
 rw [List.getD_eq_getElem?_getD, List.getElem?_eq_getElem (by omega)]
 rfl
theorem glueZ_take {z : Zone} (l : List Rr) (i : Nat) (h : i < l.length) : glueZ z (l.take (i + 1)) = glueZ z (l.take i) ++ setOf z.rrs l[i].to 1 := flatMap_take _ l i h
theorem glue_le {z : Zone} (hz : zoneOk z = true) (l : List Rr) : (glueZ z l).length ≤ l.length * 60 ∧ ∀ r ∈ glueZ z l, r ∈ z.rrs := by
 have := zoneOk_pos hz
 refine ⟨flatMap_le fun x _ => Nat.le_trans (List.length_filter_le _ _) this.2, fun r hr => ?_⟩
 obtain ⟨x, _, hx⟩ := List.mem_flatMap.1 hr
 exact (List.mem_filter.1 hx).1
theorem zTopR_mem {z : Zone} (hz : zoneOk z = true) : zTopR z ∈ z.rrs := by
 have h := topIx_lt hz
 unfold zTopR
 rw [List.getD_eq_getElem?_getD, List.getElem?_eq_getElem (by omega)]
 exact List.getElem_mem _
theorem AnsP.e {z : Zone} {m o : Msg} {k : Nat} (h : AnsP z m k o) (hk : k ≤ 6) : AnsE z m o :=
 ⟨h.id, h.rp, h.op, h.qs, ⟨by have := h.an.1; omega, h.an.2⟩, by rw [h.au]; exact ⟨by simp, nofun⟩, by rw [h.mo]; exact ⟨by simp, nofun⟩, h.pr, h.up⟩
theorem AnsP.more {z : Zone} {m o : Msg} {k : Nat} {n : List (List UInt8)} {t : Int} (hz : zoneOk z = true) (h : AnsP z m k o) : AnsP z m (k + 1) { o with auth := true, an := o.an ++ (lookupN z n t).1 } := by
 have hl := zone_look (n := n) (t := t) hz
 exact ⟨h.id, h.rp, h.op, h.qs, ⟨by show (o.an ++ _).length ≤ _; rw [List.length_append]; have := h.an.1; omega, fun r hr => (List.mem_append.1 hr).elim (h.an.2 r) (hl.2 r)⟩, h.au, h.mo, h.pr, h.up, h.cd⟩
theorem ansGo_e {z : Zone} {m : Msg} {t : Int} (hz : zoneOk z = true) : ∀ (k : Nat) (f : Bool) (o : Msg) (n : List (List UInt8)) (j : Nat), AnsP z m j o → j + k ≤ 6 → AnsE z m (ansGo z t k f o n)
 | 0, f, o, n, j, h, hj => h.e (by omega)
 | k + 1, f, o, n, j, h, hj => by
  have hl := zone_look (n := n) (t := t) hz
  have hg := glue_le hz (lookupN z n t).1
  have hm := h.more (n := n) (t := t) hz
  have hp := h.e (by omega)
  unfold ansGo
  split
  ·exact hm.e (by omega)
  split
  ·exact ansGo_e hz k false _ _ (j + 1) hm (by omega)
  split
  ·exact ⟨h.id, h.rp, h.op, h.qs, hp.an, hl, ⟨by show (o.mo ++ _).length ≤ _; rw [List.length_append, h.mo]; simp only [List.length_nil]; omega, fun r hr => (List.mem_append.1 hr).elim (hp.mo.2 r) (hg.2 r)⟩, h.pr, h.up⟩
  have ht : ([zTopR z] : List Rr).length ≤ 60 ∧ ∀ r ∈ ([zTopR z] : List Rr), r ∈ z.rrs := ⟨by simp, fun r hr => by simp only [List.mem_singleton] at hr; rw [hr]; exact zTopR_mem hz⟩
  split
  ·exact ⟨h.id, h.rp, h.op, h.qs, hp.an, ht, hp.mo, h.pr, h.up⟩
  split
  ·exact ⟨h.id, h.rp, h.op, h.qs, hp.an, ht, hp.mo, h.pr, h.up⟩
  split
  ·exact ⟨h.id, h.rp, h.op, h.qs, hp.an, hp.au, hp.mo, h.pr, h.up⟩
  ·exact hp
theorem repM_p (z : Zone) (m : Msg) : AnsP z m 0 (repM m 0) := ⟨rfl, rfl, rfl, rfl, ⟨by simp [repM], nofun⟩, rfl, rfl, rfl, rfl, rfl⟩
theorem ansRaw_e {z : Zone} {m : Msg} (hz : zoneOk z = true) : AnsE z m (ansRaw z m) := ansGo_e hz 6 true _ _ 0 (repM_p z m) (by omega)
theorem AnsE.small {z : Zone} {m o : Msg} (hz : zoneOk z = true) (hm : msgOk m = true) (h : AnsE z m o) : SmallM o := by
 have hr := zone_rrs hz
 have hq : SmallBB (m.qs.getD 0 ⟨[], 0⟩).name := .ok (MayP.of (by unfold msgOk at hm; simp only [Bool.and_eq_true] at hm; exact hm.1)).qn
 refine ⟨?_, ⟨by have := h.an.1; omega, fun r hx => rrOk_small (hr r (h.an.2 r hx))⟩, ⟨by have := h.au.1; omega, fun r hx => rrOk_small (hr r (h.au.2 r hx))⟩, ⟨by have := h.mo.1; omega, fun r hx => rrOk_small (hr r (h.mo.2 r hx))⟩, ?_, ?_⟩
 ·rw [h.qs]; exact ⟨by simp, fun q hx => by simp only [List.mem_singleton] at hx; rw [hx]; exact hq⟩
 ·rw [h.pr]; exact ⟨by simp, nofun⟩
 ·rw [h.up]; exact ⟨by simp, nofun⟩
theorem repM_ok {m : Msg} {c : Int} (hm : msgOk m = true) (hop : m.op = 0) (hc : 0 ≤ c ∧ c ≤ 10) : msgOk (repM m c) = true := by
 unfold msgOk at hm ⊢
 simp only [Bool.and_eq_true, decide_eq_true_eq] at hm ⊢
 have hp := MayP.of hm.1
 have hm1 := hm.1
 unfold msgMay at hm1
 simp only [Bool.and_eq_true, decide_eq_true_eq] at hm1
 obtain ⟨⟨⟨⟨h1, h2⟩, ⟨h3, h4⟩, h5⟩, _⟩, _⟩ := hm1
 constructor
 ·unfold msgMay repM
  simp only [List.getD_cons_zero, Bool.and_eq_true, decide_eq_true_eq, List.length_cons, List.length_nil, hop, if_true]
  exact ⟨⟨⟨⟨h1, hc⟩, ⟨trivial, h4⟩, h5⟩, ⟨⟨⟨⟨rfl, rfl⟩, rfl⟩, rfl⟩, rfl⟩⟩, trivial⟩
 ·have := wireN_small h4
  unfold msgLen msgB
  simp only [List.length_append, headB_len]
  simp only [repM, List.getD_cons_zero, List.flatMap_nil, List.append_nil, List.length_nil]
  omega
end Hearth
namespace Hearth
theorem SmallRs.app {l : List Rr} {r : Rr} {k : Nat} (h : l.length ≤ k ∧ ∀ x ∈ l, SmallR x) (hr : SmallR r) : (l ++ [r]).length ≤ k + 1 ∧ ∀ x ∈ l ++ [r], SmallR x := by
 refine ⟨by rw [List.length_append]; simp only [List.length_cons, List.length_nil]; omega, fun b hb => ?_⟩
 rcases List.mem_append.1 hb with hb | hb
 ·exact h.2 b hb
 ·simp only [List.mem_singleton] at hb; subst hb; exact hr
theorem SmallWs.app {l : List Want} {r : Want} {k : Nat} (h : l.length ≤ k ∧ ∀ x ∈ l, SmallW x) (hr : SmallW r) : (l ++ [r]).length ≤ k + 1 ∧ ∀ x ∈ l ++ [r], SmallW x := by
 refine ⟨by rw [List.length_append]; simp only [List.length_cons, List.length_nil]; omega, fun b hb => ?_⟩
 rcases List.mem_append.1 hb with hb | hb
 ·exact h.2 b hb
 ·simp only [List.mem_singleton] at hb; subst hb; exact hr
structure DrawnM (m : Msg) : Prop where
 q : ∃ n t, m.qs = [⟨n, t⟩] ∧ nameOk n = true
 a : m.an.length ≤ 12 ∧ ∀ r ∈ m.an, SmallR r
 b : m.au.length ≤ 12 ∧ ∀ r ∈ m.au, SmallR r
 c : m.mo.length ≤ 12 ∧ ∀ r ∈ m.mo, SmallR r
 p : m.pr.length ≤ 12 ∧ ∀ r ∈ m.pr, SmallW r
 u : m.up.length ≤ 12 ∧ ∀ r ∈ m.up, SmallW r
theorem DrawnM.small {m : Msg} (h : DrawnM m) : SmallM m := by
 obtain ⟨⟨n, t, hq, hn⟩, ha, hb, hc, hp, hu⟩ := h
 refine ⟨by rw [hq]; exact ⟨by simp, fun q hx => by simp only [List.mem_singleton] at hx; rw [hx]; exact .ok hn⟩, ⟨by omega, ha.2⟩, ⟨by omega, hb.2⟩, ⟨by omega, hc.2⟩, ⟨by omega, hp.2⟩, ⟨by omega, hu.2⟩⟩
theorem look_out {z : Zone} {n : List (List UInt8)} {t : Int} : (lookupN z n t).2 = 5 ↔ underN n z.origin = false := by
 unfold lookupN
 split
 ·rename_i h
  rw [h]
  constructor
  ·intro e
   split at e
   ·simp at e
   ·split at e
    ·simp at e
    ·split at e
     ·simp at e
     ·split at e <;> simp at e
  ·intro e; cases e
 ·rename_i h
  exact ⟨fun _ => by simpa using h, fun _ => rfl⟩
theorem ansGo_code {z : Zone} {t : Int} : ∀ (k : Nat) (o : Msg) (n : List (List UInt8)), o.code = 0 → (ansGo z t k false o n).code = 0 ∨ (ansGo z t k false o n).code = 3
 | 0, _, _, h => .inl h
 | k + 1, o, n, h => by
  unfold ansGo
  split
  ·exact .inl h
  split
  ·exact ansGo_code k _ _ h
  split
  ·exact .inl h
  split
  ·exact .inl h
  split
  ·exact .inr rfl
  split
  ·rename_i e; cases e
  ·exact .inl h
theorem ansRaw_code {z : Zone} {m : Msg} : ((ansRaw z m).code == 5) = !underN (m.qs.getD 0 ⟨[], 0⟩).name z.origin := by
 have hc := look_codes z (m.qs.getD 0 ⟨[], 0⟩).name (m.qs.getD 0 ⟨[], 0⟩).ty
 have h5 := look_out (z := z) (n := (m.qs.getD 0 ⟨[], 0⟩).name) (t := (m.qs.getD 0 ⟨[], 0⟩).ty)
 have h0 : (repM m 0).code = 0 := rfl
 unfold ansRaw ansGo
 generalize (m.qs.getD 0 ⟨[], 0⟩).ty = t at *
 generalize (m.qs.getD 0 ⟨[], 0⟩).name = n at *
 cases hu : underN n z.origin with
 | false =>
  have e := h5.2 hu
  rw [if_neg (by omega), if_neg (by omega), if_neg (by omega), if_neg (by omega), if_neg (by omega), if_pos rfl]
  rfl
 | true =>
  have e : ¬ (lookupN z n t).2 = 5 := fun e => by rw [h5.1 e] at hu; cases hu
  simp only [Bool.not_true, beq_eq_false_iff_ne]
  split
  ·rw [h0]; decide
  split
  ·intro h5'
   rcases ansGo_code (z := z) (t := t) 5 { repM m 0 with auth := true, an := (repM m 0).an ++ (lookupN z n t).1 } ((lookupN z n t).1.getD 0 emptyR).to h0 with h | h
   ·rw [h] at h5'; cases h5'
   ·rw [h] at h5'; cases h5'
  split
  ·rw [h0]; decide
  split
  ·rw [h0]; decide
  split
  ·intro h; cases h
  ·omega
theorem ansM_good {z : Zone} {m : Msg} (hz : zoneOk z = true) (hm : msgOk m = true) (hop : m.op = 0) :
  msgOk (ansM z m) = true ∧ (ansM z m).id = m.id ∧ (ansM z m).reply = true ∧ ((ansM z m).code == 5) = !underN (m.qs.getD 0 ⟨[], 0⟩).name z.origin ∧ ∀ r ∈ (ansM z m).an ++ (ansM z m).au ++ (ansM z m).mo, r ∈ z.rrs := by
 have he := ansRaw_e (m := m) hz
 have hc := ansRaw_code (z := z) (m := m)
 unfold ansM
 split
 ·rename_i h
  refine ⟨h, he.id, he.rp, hc, fun r hr => ?_⟩
  rcases List.mem_append.1 hr with hr | hr
  ·rcases List.mem_append.1 hr with hr | hr
   ·exact he.an.2 r hr
   ·exact he.au.2 r hr
  ·exact he.mo.2 r hr
 ·rename_i h
  refine ⟨repM_ok hm hop (by omega), rfl, rfl, ?_, nofun⟩
  cases hu : underN (m.qs.getD 0 ⟨[], 0⟩).name z.origin with
  | true => rfl
  | false =>
   exfalso
   apply h
   have e5 := (look_out (z := z) (n := (m.qs.getD 0 ⟨[], 0⟩).name) (t := (m.qs.getD 0 ⟨[], 0⟩).ty)).2 hu
   have : ansRaw z m = repM m 5 := by
    unfold ansRaw ansGo
    rw [if_neg (by omega), if_neg (by omega), if_neg (by omega), if_neg (by omega), if_neg (by omega), if_pos rfl]
    rfl
   rw [this]
   exact repM_ok hm hop (by omega)
end Hearth
namespace Hearth
open Go
section
variable {P : Program} {k : List It} {Q : Ex → St → Prop}
end
end Hearth

/- Updates, as draws make them. -/
namespace Hearth
open Go
theorem addAt_spec (r : Rr) : ∀ (l : List Rr) (st : List Rr × Bool), (st.2 = true → r ∈ st.1) →
  ((l.foldl (addSt r) st).2 = true → r ∈ (l.foldl (addSt r) st).1) ∧
  (∀ x, x ∈ (l.foldl (addSt r) st).1 ↔ x ∈ st.1 ∨ ((l.foldl (addSt r) st).2 = true ∧ x = r) ∨ ∃ y ∈ l, cmpR r y ≠ 0 ∧ x = ttlR r y) ∧
  ((l.foldl (addSt r) st).1.length = st.1.length + (if (l.foldl (addSt r) st).2 = true ∧ st.2 = false then 1 else 0) + (l.filter fun y => cmpR r y != 0).length) ∧
  (st.2 = true → (l.foldl (addSt r) st).2 = true)
 | [], st, h => by
  refine ⟨h, fun x => ?_, ?_, fun h => h⟩
  ·simp only [List.foldl_nil, List.not_mem_nil, false_and, exists_false, or_false]
   exact ⟨fun hx => .inl hx, fun hx => hx.elim id fun ⟨e, hx⟩ => hx ▸ h e⟩
  ·have : ¬ (st.2 = true ∧ st.2 = false) := by rintro ⟨a, b⟩; rw [a] at b; cases b
   simp [this]
 | y :: l, st, h => by
  simp only [List.foldl_cons]
  have h' : (addSt r st y).2 = true → r ∈ (addSt r st y).1 := by
   unfold addSt
   simp only [Bool.or_eq_true, decide_eq_true_eq]
   intro hp
   have hm : r ∈ (if st.2 = false ∧ cmpR r y ≤ 0 then st.1 ++ [r] else st.1) := by
    by_cases hs : st.2 = true
    ·rw [if_neg (by simp [hs])]; exact h hs
    ·rw [if_pos ⟨by simpa using hs, hp.resolve_left hs⟩]; simp
   split
   ·exact hm
   ·exact List.mem_append_left _ hm
  obtain ⟨i1, i2, i3, i4⟩ := addAt_spec r l (addSt r st y) h'
  have e2 : (addSt r st y).2 = (st.2 || decide (cmpR r y ≤ 0)) := rfl
  have e1 : (addSt r st y).1 = if cmpR r y = 0 then (if st.2 = false ∧ cmpR r y ≤ 0 then st.1 ++ [r] else st.1) else (if st.2 = false ∧ cmpR r y ≤ 0 then st.1 ++ [r] else st.1) ++ [ttlR r y] := rfl
  refine ⟨i1, fun x => ?_, ?_, fun hs => i4 (by rw [e2, hs]; rfl)⟩
  ·rw [i2, e1]
   constructor
   ·rintro (hx | hx | ⟨z, hz, hx⟩)
    ·have hb : x ∈ (if st.2 = false ∧ cmpR r y ≤ 0 then st.1 ++ [r] else st.1) → x ∈ st.1 ∨ ((l.foldl (addSt r) (addSt r st y)).2 = true ∧ x = r) := by
      intro hx
      split at hx
      ·rename_i hc
       rcases List.mem_append.1 hx with hx | hx
       ·exact .inl hx
       ·simp only [List.mem_singleton] at hx
        exact .inr ⟨i4 (by rw [e2]; simp [hc.2]), hx⟩
      ·exact .inl hx
     split at hx
     ·exact (hb hx).imp id .inl
     ·rename_i hne
      rcases List.mem_append.1 hx with hx | hx
      ·exact (hb hx).imp id .inl
      ·simp only [List.mem_singleton] at hx
       exact .inr (.inr ⟨y, List.mem_cons_self .., hne, hx⟩)
    ·exact .inr (.inl hx)
    ·exact .inr (.inr ⟨z, List.mem_cons_of_mem _ hz, hx⟩)
   ·have hb : x ∈ st.1 → x ∈ (if st.2 = false ∧ cmpR r y ≤ 0 then st.1 ++ [r] else st.1) := by
     intro hx; split
     ·exact List.mem_append_left _ hx
     ·exact hx
    rintro (hx | hx | ⟨z, hz, hne, hx⟩)
    ·left
     split
     ·exact hb hx
     ·exact List.mem_append_left _ (hb hx)
    ·exact .inr (.inl hx)
    ·rcases List.mem_cons.1 hz with rfl | hz
     ·left
      rw [if_neg hne]
      exact List.mem_append_right _ (by simp [hx])
     ·exact .inr (.inr ⟨z, hz, hne, hx⟩)
  ·rw [i3, e1, e2, List.filter_cons]
   have hle : cmpR r y = 0 → cmpR r y ≤ 0 := fun h => by omega
   have h4 : (addSt r st y).2 = true → (l.foldl (addSt r) (addSt r st y)).2 = true := i4
   rw [e2] at h4
   cases hs : st.2 with
   | true =>
    rw [hs] at h4
    simp only [Bool.true_or, true_implies] at h4
    by_cases hc : cmpR r y = 0
    ·simp [hc]
    ·simp [hc, h4]; omega
   | false =>
    rw [hs] at h4
    by_cases hl : cmpR r y ≤ 0
    ·have h5 : (l.foldl (addSt r) (addSt r st y)).2 = true := h4 (by simp [hl])
     by_cases hc : cmpR r y = 0
     ·simp [hc, h5]
     ·simp [hc, hl, h5]; omega
    ·have hc : ¬ cmpR r y = 0 := fun h => hl (hle h)
     simp [hc, hl]
     split <;> omega
theorem mem_addL {l : List Rr} {r x : Rr} : x ∈ addL l r ↔ x = r ∨ ∃ y ∈ l, cmpR r y ≠ 0 ∧ x = ttlR r y := by
 obtain ⟨h1, h2, _, _⟩ := addAt_spec r l ([], false) nofun
 change ((addAt l r).2 = true → r ∈ (addAt l r).1) at h1
 change ∀ x, x ∈ (addAt l r).1 ↔ x ∈ [] ∨ ((addAt l r).2 = true ∧ x = r) ∨ ∃ y ∈ l, cmpR r y ≠ 0 ∧ x = ttlR r y at h2
 unfold addL
 split
 ·rename_i hp
  rw [h2]; simp [hp]
 ·rename_i hp
  rw [List.mem_append, h2]
  simp [hp]
  constructor
  ·rintro (h | h)
   ·exact .inr h
   ·exact .inl h
  ·rintro (h | h)
   ·exact .inr h
   ·exact .inl h
theorem addL_length (l : List Rr) (r : Rr) : (addL l r).length = 1 + (l.filter fun y => cmpR r y != 0).length := by
 obtain ⟨_, _, h3, _⟩ := addAt_spec r l ([], false) nofun
 change (addAt l r).1.length = 0 + (if (addAt l r).2 = true ∧ false = false then 1 else 0) + (l.filter fun y => cmpR r y != 0).length at h3
 unfold addL
 split
 ·rename_i hp
  rw [h3]; simp [hp]
 ·rename_i hp
  rw [List.length_append, h3]; simp [hp]; omega
theorem addL_le (l : List Rr) (r : Rr) : (addL l r).length ≤ l.length + 1 := by
 rw [addL_length]
 have := List.length_filter_le (fun y => cmpR r y != 0) l
 omega
structure ZI (k : Nat) (z : Zone) : Prop where
 o : nameOk z.origin = true
 len : z.rrs.length ≤ k
 ok : ∀ r ∈ z.rrs, rrOk r = true
 soa : ∃ r ∈ z.rrs, r.ty = 6 ∧ r.name = z.origin
theorem ZI.small {k : Nat} {z : Zone} (h : ZI k z) (hk : k ≤ 1000000) : SmallZ z := ⟨.ok h.o, ⟨by have := h.len; omega, fun r hr => rrOk_small (h.ok r hr)⟩⟩
theorem ZI.mono {k j : Nat} {z : Zone} (h : ZI k z) (hk : k ≤ j) : ZI j z := ⟨h.o, Nat.le_trans h.len hk, h.ok, h.soa⟩
theorem ZI.of {z : Zone} (h : zoneOk z = true) : ZI 60 z := by
 have hp := zoneP.1 h
 have ht := topIx_lt h
 refine ⟨hp.o, hp.len, hp.ok, ?_⟩
 have hm := zTopR_mem h
 have h6 : (zTopR z).ty = 6 := by
  have hx := ht
  unfold topIx idx at hx
  unfold zTopR topIx idx
  cases hf : z.rrs.findIdx? (fun r => r.ty == 6) with
  | none => rw [hf] at hx; simp at hx
  | some i =>
   rw [List.findIdx?_eq_some_iff_getElem] at hf
   obtain ⟨h1, h2, _⟩ := hf
   simp only [Int.toNat_natCast]
   rw [List.getD_eq_getElem?_getD, List.getElem?_eq_getElem h1]
   simpa using h2
 exact ⟨_, hm, h6, hp.top _ hm h6⟩
theorem ttlR_name (r x : Rr) : (ttlR r x).name = x.name ∧ (ttlR r x).ty = x.ty := by
 unfold ttlR; split <;> exact ⟨rfl, rfl⟩
theorem ZI.add {k : Nat} {z : Zone} {r : Rr} (h : ZI k z) (hr : rrOk r = true) : ZI (k + 1) ⟨z.origin, addL z.rrs r⟩ := by
 refine ⟨h.o, by have := addL_le z.rrs r; have := h.len; show (addL z.rrs r).length ≤ _; omega, addL_mem _ _ _ hr fun x hx => ttlR_ok hr (h.ok x hx), ?_⟩
 obtain ⟨x, hx, h6, hn⟩ := h.soa
 by_cases hc : cmpR r x = 0
 ·have := (cmpR_iff r x).1 hc
  exact ⟨r, mem_addL.2 (.inl rfl), by rw [this.2.1, h6], by rw [this.1, hn]⟩
 ·exact ⟨ttlR r x, mem_addL.2 (.inr ⟨x, hx, hc, rfl⟩), by rw [(ttlR_name r x).2, h6], by rw [(ttlR_name r x).1, hn]⟩
theorem ZI.filter {k : Nat} {z : Zone} (h : ZI k z) (f : Rr → Bool) (hf : ∀ r, r.ty = 6 → f r = true) : ZI k ⟨z.origin, z.rrs.filter f⟩ := by
 refine ⟨h.o, Nat.le_trans (List.length_filter_le _ _) h.len, fun r hr => h.ok r (List.mem_filter.1 hr).1, ?_⟩
 obtain ⟨x, hx, h6, hn⟩ := h.soa
 exact ⟨x, List.mem_filter.2 ⟨hx, hf x h6⟩, h6, hn⟩
end Hearth

/- The abstract machine: functions whose contracts are told by states. -/
namespace Hearth
open Go
section
variable {lo : List (Nat × OK)} {slots : List RSl} {R : List RA → List (Nat × OK) → Prop} {s : St}
end
section
variable {P : Program} {k : List It} {Q : Ex → St → Prop} {s : St} {r : T} {d : Option Nat} {q : Bool} {oi : Nat} {tags : List Nat}
def ws (l : List Int) : List AC := l.map fun x => .d (.sc (.int .u32 x))
end
def Task.cellsO (t : Task) (v : Nat) : List AC := [.d (.sc (.int .i64 t.state)), .d (.sc (.int .i64 t.id)), .d (encBB t.fname), .d (.sc (.int .i64 t.ftype)), .d (encBB t.name), .d (encBB t.zone), .d (encI t.hints), .d (encI t.servers), .d (.sc (.int .i64 t.turn)), .d (.sc (.int .i64 t.sends)), .d (.sc (.int .i64 t.steps)), .d (.sc (.int .i64 t.code)), .arr 1 v]
def Task.lo (t : Task) (v : Nat) : List (Nat × OK) := [(0, .box (t.cellsO v)), (1, .arr false (encR t.answers))]
def Cache.lo (c : Cache) (v : Nat) : List (Nat × OK) := [(0, .box [.d (.sc (.int .i64 c.now)), .d (.sc (.int .i64 c.turn)), .arr 1 v]), (1, .arr true (encS c.slots))]
end Hearth

/- Short names for a digest's parts and for rules. -/
namespace Hearth
def T.o (i d : Nat) (x : O) (r : T) : T := .op i [] (some d) none false x r
def X.i (n : Int) : X := .v (.int .i64 n)
def C.g (t : T) (c : C) : C := .seq (.reg false t) c
theorem pr {p : Prop} (h : p := by first | assumption | omega | solve_by_elim [List.getElem_mem] | (simp only [szOut] at *; omega)) : p := h
theorem prl {p : Prop} (h : p := by first | omega | (simp only [List.length_append, List.length_cons, List.length_nil]; omega)) : p := h
theorem leb {m n : Nat} (h : Nat.ble m n = true := by exact rfl) : m ≤ n := Nat.le_of_ble_eq_true h
theorem pry {p : Prop} (h : p := by first | assumption | omega | solve_by_elim [List.getElem_mem] | (simp only [szOut] at *; omega) | exact rfl | exact leb) : p := h
theorem prx {p : Prop} (h : p := by first | assumption | omega | solve_by_elim [List.getElem_mem] | (simp only [List.length_append, w2_len, w4_len]; omega) | (simp only [szOut] at *; omega) | exact rfl | exact leb | exact rrOk_small (by assumption) | exact zoneOk_small (by assumption) | exact SmallBB.ok (by assumption) | exact (SmallBB.ok (by assumption)).len | exact (SmallBB.ok (by assumption)).mem | exact SmallBB.bent (by assumption)) : p := h
theorem om {p : Prop} (h : p := by omega) : p := h
universe u in
theorem Y {α : Sort u} {a : α} : a = a := rfl
abbrev Ka := @kMovC
abbrev Kb := @kSeq
abbrev Kc := @kReg
abbrev Kd := @kDone
abbrev Ke := @kLoadP
abbrev Kf := @kFadP
abbrev Kg := @kGF
abbrev Ki := @kGT
abbrev Kj := @kBin
abbrev Kk := @kPickT
abbrev Kl := @kPickF
abbrev Km := @kCondP
abbrev Kn := @kSkip
abbrev Ko := @kStoreP
abbrev Kp := @kCallD
abbrev Kq := @kLenR
abbrev Kr := @kRet
abbrev Ks := @kRelF
abbrev Kt := @kBlock
abbrev Ku := @kCall1
abbrev Kv := @kBk
abbrev Kw := @kUn
abbrev Kx := @kRelK
abbrev Ky := @kLoadD
abbrev Kz := @kCallE
abbrev Er := @endRetA
section
open Go
variable {P : Program} {k : List It} {Q : Ex → St → Prop} {s : St}
theorem Kbc {t : T} {y : C} (h : kont P (.t t [] :: .c y :: k) Q .normal s) : kont P (.c (.seq (.reg false t) y) :: k) Q .normal s := kSeq (kReg h)
theorem Kdb {tags : List Nat} {x y : C} (h : kont P (.c x :: .c y :: k) Q .normal s) : kont P (.t .done tags :: .c (.seq x y) :: k) Q .normal s := kDone (kSeq h)
end
end Hearth
