/- An abstract machine for Go programs, and its soundness: the framework of this proof; no condition. -/
import Derived.WideShapes
import Derived.Test.YtbmagbgdpmgbmaaHearth3
set_option linter.unusedVariables false
set_option linter.unusedSimpArgs false
/- Draws: what they tell is of a kind; names that are read. -/
namespace Hearth
open Go
def intsOf : List (List DV) → Option (List Int)
  | [] => some []
  | [.sc (.int .i64 n)] :: r => match intsOf r with
    | some l => some (n :: l)
    | none => none
  | _ => none
theorem intsOf_eq : ∀ {xs : List (List DV)} {l : List Int}, intsOf xs = some l → DV.sl 1 xs = encI l
  | [], l, h => by simp [intsOf] at h; subst h; rfl
  | x :: r, l, h => by
    unfold intsOf at h
    split at h
    · rename_i e; cases e
    · rename_i n r' e
      simp only [List.cons.injEq] at e
      obtain ⟨rfl, rfl⟩ := e
      split at h
      · rename_i l' hl
        simp only [Option.some.injEq] at h
        subst h
        have := intsOf_eq hl
        simp only [encI, DV.sl.injEq, true_and] at this ⊢
        rw [this]; rfl
      · cases h
    · cases h
def strsOf : List (List DV) → Option (List ByteArray)
  | [] => some []
  | [.sc (.string n)] :: r => match strsOf r with
    | some l => some (n :: l)
    | none => none
  | _ => none
theorem strsOf_eq : ∀ {xs : List (List DV)} {l : List ByteArray}, strsOf xs = some l → xs = l.map fun b => [.sc (.string b)]
  | [], l, h => by simp [strsOf] at h; subst h; rfl
  | x :: r, l, h => by
    unfold strsOf at h
    split at h
    · rename_i e; cases e
    · rename_i n r' e
      simp only [List.cons.injEq] at e
      obtain ⟨rfl, rfl⟩ := e
      split at h
      · rename_i l' hl
        simp only [Option.some.injEq] at h
        subst h
        rw [strsOf_eq hl]; rfl
      · cases h
    · cases h
section
variable {P : Program} {k : List It} {Q : Ex → St → Prop} {s : St} {r : T} {d : Option Nat} {q : Bool} {oi : Nat} {tags : List Nat}
/-- An element of a row of constant strings. -/
theorem kIadStr {x i : X} {j : IntKind} {n : Int} {id ver ev : Nat} {dp : Bool} {xs : List (List DV)} {l : List ByteArray} (hx : s.ev x = .c (.arr id ver)) (ho : s.ob id = ⟨ver, ev, .arr dp (.sl 1 xs)⟩) (hs : strsOf xs = some l) (hi : s.ev i = .vv (.int j n)) (hm : 0 ≤ n ∧ n < (l.length : Int))
    (h : kont P (.t r tags :: k) Q .normal (s.put d (.c (.ept id ver n.toNat 0)))) : kont P (.t (.op oi [] d none q (.iad 1 x i) r) tags :: k) Q .normal s :=
  kIadA hx hi ho rfl ⟨hm.1, by rw [strsOf_eq hs]; simp only [DV.len, List.length_map]; omega⟩ h
theorem kLoadStr {x : X} {id ver ev i : Nat} {dp : Bool} {xs : List (List DV)} {l : List ByteArray} (hx : s.ev x = .c (.ept id ver i 0)) (ho : s.ob id = ⟨ver, ev, .arr dp (.sl 1 xs)⟩) (hs : strsOf xs = some l) (hi : i < l.length) (hz : (l.all fun b => Nat.ble b.size 64) = true)
    (h : ∀ b : ByteArray, b.size ≤ 64 → kont P (.t r (if q then oi :: tags else tags) :: k) Q .normal ((s.heldIf q [id]).put d (.vv (.string b)))) : kont P (.t (.op oi [] d none q (.load none x) r) tags :: k) Q .normal s := by
  refine kLoadE hx ho (v := .vv (.string l[i])) ?_ (h _ ?_)
  · rw [strsOf_eq hs]
    rw [row_map 1 (fun b => [DV.sc (.string b)]) l i hi]
    rfl
  · have := List.all_eq_true.1 hz _ (List.getElem_mem hi)
    exact Nat.le_of_ble_eq_true this
/-- A remainder. -/
theorem kRem {x y : X} {a b : Int} (hx : s.ev x = .i a) (hy : s.ev y = .i b) (hb : b ≠ 0) (h : kont P (.t r tags :: k) Q .normal (s.put d (.i (a.tmod b)))) :
    kont P (.t (.op oi [] d none q (.bin .rem x y) r) tags :: k) Q .normal s :=
  kBin hx hy (by simp only [evBin, if_true, if_neg hb]) h
end
theorem tmod_in {a n : Int} (h0 : 0 ≤ a) (hn : 0 < n) : 0 ≤ a.tmod n ∧ a.tmod n < n := by
  rw [Int.tmod_eq_emod_of_nonneg h0]
  exact ⟨Int.emod_nonneg _ (by omega), Int.emod_lt_of_pos _ hn⟩
/-- Great letters as small ones. -/
def lowC (c : UInt8) : UInt8 := if 65 ≤ c ∧ c ≤ 90 then c + 32 else c
def lowerB (l : List UInt8) : List UInt8 := l.map lowC
/-- Names as they are read: what labels there are, and the one that is under way. -/
def rdStep (st : List (List UInt8) × List UInt8) (c : UInt8) : List (List UInt8) × List UInt8 := if c = 46 then (st.1 ++ [lowerB st.2], []) else (st.1, st.2 ++ [c])
def rdAll (b : List UInt8) : List (List UInt8) × List UInt8 := b.foldl rdStep ([], [])
def readL (b : List UInt8) : List (List UInt8) := if (rdAll b).2 = [] ∧ 0 < b.length then (rdAll b).1 else (rdAll b).1 ++ [lowerB (rdAll b).2]
def readOk (b : List UInt8) : Bool := decide (b = [46]) || nameOk (readL b)
def readN (b : List UInt8) : List (List UInt8) := if b = [46] then [] else if nameOk (readL b) then readL b else []
theorem readN_ok (b : List UInt8) : nameOk (readN b) = true := by
  unfold readN
  split
  · rfl
  · split
    · assumption
    · rfl
theorem rdAll_succ (b : List UInt8) (i : Nat) (h : i < b.length) : rdAll (b.take (i + 1)) = rdStep (rdAll (b.take i)) b[i] := by
  unfold rdAll; rw [← List.take_append_getElem h, List.foldl_append]; rfl
theorem rd_len (b : List UInt8) (i : Nat) : (rdAll (b.take i)).1.length + (rdAll (b.take i)).2.length ≤ i := by
  have key : ∀ (l : List UInt8) (st : List (List UInt8) × List UInt8), (l.foldl rdStep st).1.length + (l.foldl rdStep st).2.length ≤ st.1.length + st.2.length + l.length := by
    intro l
    induction l with
    | nil => intro st; simp
    | cons c l ih =>
      intro st
      have := ih (rdStep st c)
      have e : (rdStep st c).1.length + (rdStep st c).2.length ≤ st.1.length + st.2.length + 1 := by
        unfold rdStep; split <;> simp <;> omega
      simp only [List.foldl_cons, List.length_cons]; omega
  have := key (b.take i) ([], [])
  simp only [List.length_nil, List.length_take] at this
  unfold rdAll; omega
theorem nameOk_len {n : List (List UInt8)} (h : nameOk n = true) : n.length ≤ 6 := by
  unfold nameOk at h; simp at h; omega
theorem flat_mul {n : List (List UInt8)} {m : Nat} (h : ∀ b ∈ n, b.length ≤ m) : n.flatten.length ≤ n.length * m := by
  induction n with
  | nil => simp
  | cons x n ih =>
    have h1 := h x (List.mem_cons_self ..)
    have h2 := ih fun b hb => h b (List.mem_cons_of_mem _ hb)
    simp only [List.flatten_cons, List.length_append, List.length_cons, Nat.add_mul]
    omega
theorem nameOk_mem {n : List (List UInt8)} (h : nameOk n = true) : ∀ b ∈ n, 1 ≤ b.length ∧ b.length ≤ 15 := by
  intro b hb
  unfold nameOk at h
  simp only [Bool.and_eq_true, decide_eq_true_eq] at h
  have := List.all_eq_true.1 h.2 b hb
  unfold labelOk at this
  simp only [Bool.and_eq_true, decide_eq_true_eq] at this
  omega
theorem nameOk_flat {n : List (List UInt8)} (h : nameOk n = true) : n.flatten.length ≤ 90 := by
  have h6 := nameOk_len h
  have := flat_mul (m := 15) fun b hb => (nameOk_mem h b hb).2
  have : n.length * 15 ≤ 6 * 15 := Nat.mul_le_mul_right _ h6
  omega
theorem SmallBB.ok {n : List (List UInt8)} (h : nameOk n = true) : SmallBB n := by
  have h6 := nameOk_len h
  have := nameOk_flat h
  exact ⟨by omega, fun b hb => by have := nameOk_mem h b hb; omega, by omega⟩
end Hearth
namespace Hearth
open Go
def rdL (b : List UInt8) (i : Nat) : List (List UInt8) := if i ≤ b.length then (rdAll (b.take i)).1 else readL b
def rdW (b : List UInt8) (i : Nat) : List UInt8 := if i ≤ b.length then (rdAll (b.take i)).2 else []
theorem rd_char {b : List UInt8} {i : Nat} (h : i < b.length) (hc : b[i] ≠ 46) : rdL b (i + 1) = rdL b i ∧ rdW b (i + 1) = rdW b i ++ [b[i]] := by
  unfold rdL rdW
  rw [if_pos (by omega), if_pos (by omega), if_pos (by omega), if_pos (by omega), rdAll_succ _ _ h]
  unfold rdStep
  rw [if_neg hc]
  exact ⟨rfl, rfl⟩
theorem rd_dot {b : List UInt8} {i : Nat} (h : i < b.length) (hc : b[i] = 46) : rdL b (i + 1) = rdL b i ++ [lowerB (rdW b i)] ∧ rdW b (i + 1) = [] := by
  unfold rdL rdW
  rw [if_pos (by omega), if_pos (by omega), if_pos (by omega), if_pos (by omega), rdAll_succ _ _ h]
  unfold rdStep
  rw [if_pos hc]
  exact ⟨rfl, rfl⟩
theorem rd_last {b : List UInt8} : rdL b (b.length + 1) = readL b ∧ rdW b (b.length + 1) = [] := by
  unfold rdL rdW
  rw [if_neg (by omega), if_neg (by omega)]
  exact ⟨rfl, rfl⟩
theorem rd_end {b : List UInt8} : readL b = if rdW b b.length = [] ∧ 0 < b.length then rdL b b.length else rdL b b.length ++ [lowerB (rdW b b.length)] := by
  unfold rdL rdW readL
  rw [if_pos (Nat.le_refl _), if_pos (Nat.le_refl _), List.take_length]
theorem rd_lens (b : List UInt8) (i : Nat) (h : i ≤ b.length) : (rdL b i).length + (rdW b i).length ≤ i := by
  unfold rdL rdW
  rw [if_pos h, if_pos h]
  exact rd_len b i
theorem rdW_mem (b : List UInt8) (i : Nat) : (∀ x ∈ rdL b i, x.length ≤ b.length) ∧ (rdW b i).length ≤ b.length := by
  have key : ∀ (l : List UInt8) (st : List (List UInt8) × List UInt8) (m : Nat), (∀ x ∈ st.1, x.length ≤ m + l.length) → st.2.length ≤ m → (∀ x ∈ (l.foldl rdStep st).1, x.length ≤ m + l.length) ∧ (l.foldl rdStep st).2.length ≤ m + l.length := by
    intro l
    induction l with
    | nil => intro st m h1 h2; exact ⟨by simpa using h1, by simpa using h2⟩
    | cons c l ih =>
      intro st m h1 h2
      have := ih (rdStep st c) (m + 1) (by
        intro x hx
        unfold rdStep at hx
        split at hx
        · rcases List.mem_append.1 hx with hx | hx
          · have := h1 x hx; simp only [List.length_cons] at this; omega
          · simp only [List.mem_singleton] at hx
            subst hx
            simp only [lowerB, List.length_map]; omega
        · have := h1 x hx; simp only [List.length_cons] at this; omega) (by
        unfold rdStep
        split
        · simp
        · simp; omega)
      simp only [List.foldl_cons, List.length_cons]
      refine ⟨fun x hx => ?_, ?_⟩
      · have := this.1 x hx; omega
      · have := this.2; omega
  have all : ∀ j, j ≤ b.length → (∀ x ∈ (rdAll (b.take j)).1, x.length ≤ b.length) ∧ (rdAll (b.take j)).2.length ≤ b.length := by
    intro j hj
    have := key (b.take j) ([], []) 0 (by simp) (by simp)
    have hl : (b.take j).length ≤ b.length := by simp; omega
    exact ⟨fun x hx => by have := this.1 x hx; omega, by have := this.2; unfold rdAll; omega⟩
  unfold rdL rdW
  split
  · exact all i (by assumption)
  · refine ⟨?_, by simp⟩
    have := all b.length (Nat.le_refl _)
    rw [List.take_length] at this
    unfold readL
    split
    · exact this.1
    · intro x hx
      rcases List.mem_append.1 hx with hx | hx
      · exact this.1 x hx
      · simp only [List.mem_singleton] at hx
        subst hx
        simp only [lowerB, List.length_map]; exact this.2
theorem readL_small {b : List UInt8} (h : b.length ≤ 4194303) : (readL b).length ≤ 4194304 ∧ ∀ x ∈ readL b, x.length ≤ 4194304 := by
  have h1 := rdW_mem b (b.length + 1)
  have h2 := rd_lens b b.length (Nat.le_refl _)
  rw [rd_last.1] at h1
  refine ⟨?_, fun x hx => by have := h1.1 x hx; omega⟩
  rw [rd_end]
  split
  · omega
  · simp; omega
theorem eq46 (b : List UInt8) : ((ByteArray.mk b.toArray).toList == (ByteArray.mk #[46]).toList) = decide (b = [46]) := by
  rw [ByteArray.toList_eq, ByteArray.toList_eq]
  rw [Bool.eq_iff_iff]; simp
end Hearth
namespace Hearth
open Go
/-- Names as text. -/
def textL (a : List (List UInt8)) : List UInt8 := a.flatMap fun l => l ++ [46]
def textN (a : List (List UInt8)) : List UInt8 := if a = [] then [46] else textL a
theorem textL_take (a : List (List UInt8)) (i : Nat) (h : i < a.length) : textL (a.take (i + 1)) = textL (a.take i) ++ a[i] ++ [46] := by
  unfold textL
  rw [← List.take_append_getElem h, List.flatMap_append]
  simp
theorem textL_len (a : List (List UInt8)) : (textL a).length = a.length + a.flatten.length := by
  induction a with
  | nil => rfl
  | cons x a ih => simp only [textL, List.flatMap_cons, List.length_append, List.length_cons, List.flatten_cons, List.length_nil] at *; omega
theorem textL_le (a : List (List UInt8)) (i : Nat) : (textL (a.take i)).length ≤ a.length + a.flatten.length := by
  rw [textL_len]
  have := flat_le a i
  simp only [List.length_take]; omega
theorem bt_len (b : ByteArray) : b.toList.length = b.size := by
  rw [ByteArray.toList_eq]; exact Array.length_toList
end Hearth
namespace Hearth
theorem bent_app {l : List (List UInt8)} {z : List UInt8} (h : nameOk l = true) (hz : z.length ≤ 64) : (l ++ [z]).length ≤ 7 ∧ ∀ b ∈ l ++ [z], b.length ≤ 64 := by
  have h6 := nameOk_len h
  refine ⟨by simp; omega, fun b hb => ?_⟩
  rcases List.mem_append.1 hb with hb | hb
  · have := nameOk_mem h b hb; omega
  · simp only [List.mem_singleton] at hb; subst hb; exact hz
theorem bent_ok {l : List (List UInt8)} (h : nameOk l = true) : l.length ≤ 7 ∧ ∀ b ∈ l, b.length ≤ 64 := by
  have h6 := nameOk_len h
  exact ⟨by omega, fun b hb => by have := nameOk_mem h b hb; omega⟩
theorem SmallBB.bent {l : List (List UInt8)} (h : l.length ≤ 7 ∧ ∀ b ∈ l, b.length ≤ 64) : SmallBB l := by
  have := flat_mul (m := 64) h.2
  have : l.length * 64 ≤ 7 * 64 := Nat.mul_le_mul_right _ h.1
  exact ⟨by omega, fun b hb => by have := h.2 b hb; omega, by omega⟩
end Hearth
namespace Hearth
/-- A record as draws make it. -/
structure drawnR (r : Rr) : Prop where
  n : nameOk r.name = true
  t : nameOk r.to = true
  x : r.text.length ≤ 64
  m : r.nums.length ≤ 64
end Hearth
namespace Hearth
theorem drawnR.small {r : Rr} (h : drawnR r) : SmallR r := ⟨.ok h.n, .ok h.t, by have := h.x; omega, by have := h.m; omega⟩
end Hearth
namespace Hearth
def sameR (a b : Rr) : Bool := rrOk a && rrOk b && decide (cmpR a b = 0)
end Hearth
namespace Hearth
theorem sameR_refl {r : Rr} (h : rrOk r = true) : sameR r r = true := by
  unfold sameR; rw [h]; simp [cmpR_iff]
theorem filter_at {α : Type} {f : α → Bool} {l : List α} {i : Nat} (h : i < l.length) (hf : f l[i] = true) : ((l.take i).filter f).length < (l.filter f).length ∧ (l.filter f)[((l.take i).filter f).length]? = some l[i] := by
  have e : l.filter f = (l.take i).filter f ++ l[i] :: ((l.drop (i + 1)).filter f) := by
    conv => lhs; rw [← List.take_append_drop i l, List.filter_append, List.drop_eq_getElem_cons h, List.filter_cons, if_pos hf]
  rw [e]
  refine ⟨by simp, ?_⟩
  rw [List.getElem?_append_right (Nat.le_refl _)]
  simp
theorem inside_ok {l : List Rr} {z : List (List UInt8)} (h : insideN l z ≠ []) : insideN l z = insideR l z ∧ rrsOk l = true ∧ nameOk z = true := by
  unfold insideN at h ⊢
  split at h
  · rename_i hc
    simp only [Bool.and_eq_true] at hc
    rw [if_pos (by simp [hc])]
    exact ⟨rfl, hc⟩
  · exact absurd rfl h
theorem rrsOk_mem {l : List Rr} (h : rrsOk l = true) : ∀ r ∈ l, rrOk r = true := by
  unfold rrsOk at h
  simp only [Bool.and_eq_true] at h
  exact List.all_eq_true.1 h.2
theorem rrOk_name {r : Rr} (h : rrOk r = true) : nameOk r.name = true := by
  unfold rrOk at h
  simp only [Bool.and_eq_true] at h
  exact h.1.1.1
end Hearth

/- From a function's contract to a law's walk. -/
namespace Hearth
open Go Go.RowKit

/-- What an argument of a plain type is made of. -/
inductive AS where
  | one (sh : Sh)
  | agg (l : List Sh)

def shDA (n : Nat) : AS → DA → Prop
  | .one sh, .one x => shOk n sh x
  | .agg l, .agg xs => xs.length = l.length ∧ ∀ (k : Nat) (sh : Sh) (x : DV), l[k]? = some sh → xs[k]? = some x → shOk n sh x
  | _, _ => False

def asOf (P : Program) (n : Nat) (t : TypeId) : Option AS :=
  match P.underlying t with
  | some (.struct _) => match cellsSh P n t with
    | some l => if l.length ≤ 64 then some (.agg l) else none
    | none => none
  | some (.array _ _) => none
  | _ => match cellsSh P n t with
    | some [sh] => some (.one sh)
    | _ => none

section
variable {H : Type} {enc : TypeId × Value → H} {P : Program} {w : World}

theorem cells_one {base : Nat} {t : TypeId} {v : Value} (h : Cell.okWide P w .any base t v) : v.cells.toList = [v] := by
  cases v <;> first | rfl | (exfalso; revert h; simp [Cell.okWide, Cell.ok]; try (split <;> simp_all))

theorem arg_da {n : Nat} {sp : AS} {t : TypeId} {v : Value} {d : DataW H} {ps : List MemPlace} {base : Nat} (ha : asOf P n t = some sp) (ho : Value.okWide P w .any base t v) (h : DataW.Trod enc P w 0 (fun _ => true) true t v d ps) :
    ∃ da, DAr w (All w) da v ∧ shDA n sp da := by
  obtain ⟨fuel, h⟩ := h
  unfold asOf at ha
  unfold Value.okWide at ho
  split at ha
  · rename_i fs ht
    simp only [ht] at ho
    obtain ⟨cs, rfl, hcs, _⟩ := ho
    split at ha
    · rename_i l hl
      split at ha
      · rename_i h64
        simp at ha; subst ha
        obtain ⟨g1, g2⟩ := trod_sh hl h
        have g1' : cs.size = l.length := by simpa [Value.cells] using g1
        have ch : ∀ k : Nat, ∃ y : DV, ∀ (u : Value) (sh : Sh), cs[k]? = some u → l[k]? = some sh → Pers w (All w) y u ∧ shOk n sh y := by
          intro k
          by_cases hk : k < l.length
          · obtain ⟨y, a1, a2⟩ := g2 k (cs[k]'(by omega)) l[k] (by simp [Value.cells, g1', hk]) (List.getElem?_eq_getElem hk)
            refine ⟨y, fun u sh b1 b2 => ?_⟩
            rw [Array.getElem?_eq_getElem (by omega)] at b1
            rw [List.getElem?_eq_getElem hk] at b2
            simp at b1 b2
            subst b1; subst b2
            exact ⟨a1, a2⟩
          · exact ⟨.sl 0 [], fun u sh _ b2 => by rw [List.getElem?_eq_none (by omega)] at b2; cases b2⟩
        have ⟨f, hf⟩ := Classical.axiomOfChoice ch
        refine ⟨.agg ((List.range l.length).map f), ⟨cs, rfl, ⟨by simp [g1'], by simpa using h64⟩, fun k x u hx hu => ?_⟩, by simp, fun k sh x hs hx => ?_⟩
        · simp only [List.getElem?_map, Option.map_eq_some_iff] at hx
          obtain ⟨k', hk, rfl⟩ := hx
          have hlt : k < l.length := by have := (List.getElem?_eq_some_iff.1 hk).1; simpa using this
          rw [List.getElem?_range hlt] at hk
          simp at hk; subst hk
          exact (hf k u _ hu (List.getElem?_eq_getElem hlt)).1
        · simp only [List.getElem?_map, Option.map_eq_some_iff] at hx
          obtain ⟨k', hk, rfl⟩ := hx
          have hlt : k < l.length := by have := (List.getElem?_eq_some_iff.1 hk).1; simpa using this
          rw [List.getElem?_range hlt] at hk
          simp at hk; subst hk
          exact (hf k _ sh (Array.getElem?_eq_getElem (by omega)) hs).2
      · simp at ha
    · simp at ha
  · simp at ha
  · rename_i hns hna
    split at ha
    · rename_i sh hl
      simp at ha; subst ha
      have ho' : Cell.okWide P w .any base t v := by
        revert ho
        split
        · rename_i fs h'; exact absurd h' (hns fs)
        · rename_i a b h'; exact absurd h' (hna a b)
        · exact id
      rw [cells_one ho'] at h
      obtain ⟨_, g2⟩ := trod_sh hl h
      obtain ⟨y, g3, g4⟩ := g2 0 v sh rfl rfl
      exact ⟨.one y, g3, g4⟩
    · simp at ha

/-- A call of a law that is told of its arguments' data. -/
theorem law_calls {f : Nat} {das : List DA} {vs : Array Value} (hd : DAs w (All w) das vs) (hok : FnOK P f (das.map DA.ga) (fun ra _ => ra = [.one (.d (.sc (.bool true)))])) :
    Calls P f vs w fun e w' => e = .returned (.bool true) ∧ Below w.heap.size w w' := by
  refine (hok.2 w (All w) (fun _ _ => False) vs (by simpa using hd.1) (fun t g v hg hv => ?_) (by simp) (by simp) (fun _ h => h) (by simp)).mono fun e w' h => ?_
  · simp only [List.getElem?_map, Option.map_eq_some_iff] at hg
    obtain ⟨da, hda, rfl⟩ := hg
    have := hd.2 t da v hda hv
    cases da with
    | one x => exact this
    | agg xs =>
      obtain ⟨us, h1, h2, h3⟩ := this
      refine ⟨us, h1, by simpa using h2.1, by simpa using h2.2, fun k p u hp hu => ?_⟩
      simp only [List.getElem?_map, Option.map_eq_some_iff] at hp
      obtain ⟨x, hx, rfl⟩ := hp
      exact h3 k x u hx hu
  · obtain ⟨v, ra, os, G, rfl, rfl, he, _, hr, _⟩ := h
    obtain ⟨us, h1, h2, h3⟩ := hr
    have hs : us.size = 1 := h2
    rw [dif_pos hs] at h1
    have hp : Pers w' _ (.sc (.bool true)) us[0] := h3 0 _ us[0] rfl (Array.getElem?_eq_getElem (by omega))
    have key : ∀ {S : Nat → Prop} {x : DV} {u : Value}, Pers w' S x u → x = .sc (.bool true) → u = .bool true := by
      intro S x u hp hx
      cases hp with
      | sc _ _ => cases hx; rfl
      | emp _ _ _ => cases hx
      | sl _ _ _ _ _ _ _ _ _ _ _ _ => cases hx
    exact ⟨by rw [h1, key hp rfl], he.os, he.tape, he.output, he.size, fun k hk => he.same k hk (by simp)⟩
end

/-! What shapes tell. -/
theorem shOk_int {n : Nat} {k : IntKind} {x : DV} (h : shOk n (.int k) x) : ∃ m, x = .sc (.int k m) ∧ (Lit.int k m).wf = true := by
  cases n with
  | zero => simp [shOk] at h
  | succ n => cases x with
    | sc v => cases v <;> simp [shOk] at h; obtain ⟨rfl, h⟩ := h; exact ⟨_, rfl, h⟩
    | sl _ _ => simp [shOk] at h
theorem shOk_u8 {n : Nat} {x : DV} (h : shOk n (.int .u8) x) : ∃ b : UInt8, x = .sc (.int .u8 b.toNat) := by
  obtain ⟨m, rfl, hw⟩ := shOk_int h
  simp [Lit.wf, IntKind.min, IntKind.max, IntKind.signed, IntKind.bits] at hw
  refine ⟨UInt8.ofNat m.toNat, ?_⟩
  have : ((UInt8.ofNat m.toNat).toNat : Int) = m := by
    rw [UInt8.toNat_ofNat']
    omega
  rw [this]
theorem shOk_bool {n : Nat} {x : DV} (h : shOk n .bool x) : ∃ b, x = .sc (.bool b) := by
  cases n with
  | zero => simp [shOk] at h
  | succ n => cases x with
    | sc v => cases v <;> simp [shOk] at h; exact ⟨_, rfl⟩
    | sl _ _ => simp [shOk] at h
theorem shOk_str {n : Nat} {x : DV} (h : shOk n .str x) : ∃ b, x = .sc (.string b) ∧ b.size ≤ maxLen := by
  cases n with
  | zero => simp [shOk] at h
  | succ n => cases x with
    | sc v => cases v <;> simp [shOk] at h; exact ⟨_, rfl, h⟩
    | sl _ _ => simp [shOk] at h
/-- A list whose rows are each of something. -/
theorem shOk_rows {n : Nat} {l : List Sh} {x : DV} {α : Type} {f : α → List DV} {q : α → Prop} (h : shOk n (.sl l) x)
    (hr : ∀ (m : Nat) (row : List DV), row.length = l.length → (∀ (j : Nat) (sh : Sh) (y : DV), l[j]? = some sh → row[j]? = some y → shOk m sh y) → ∃ a, row = f a ∧ q a) :
    ∃ as : List α, x = .sl l.length (as.map f) ∧ (as.length : Int) ≤ 9223372036854775807 ∧ ∀ a ∈ as, q a := by
  cases n with
  | zero => simp [shOk] at h
  | succ n => cases x with
    | sc v => cases v <;> simp [shOk] at h
    | sl sz rows =>
      obtain ⟨rfl, _, h3, h4⟩ := h
      have : ∀ rows : List (List DV), (∀ row ∈ rows, ∃ a, row = f a ∧ q a) → ∃ as : List α, rows = as.map f ∧ ∀ a ∈ as, q a := by
        intro rows
        induction rows with
        | nil => exact fun _ => ⟨[], rfl, by simp⟩
        | cons r rs ih =>
          intro h
          obtain ⟨a, h1, h2⟩ := h r (by simp)
          obtain ⟨as, h3, h4⟩ := ih (fun r hr => h r (by simp [hr]))
          exact ⟨a :: as, by rw [h1, h3]; rfl, fun b hb => (List.mem_cons.1 hb).elim (fun e => e ▸ h2) (h4 b)⟩
      obtain ⟨as, rfl, h5⟩ := this rows (fun row hrow => hr n row (h4 row hrow).1 (h4 row hrow).2)
      refine ⟨as, rfl, ?_, h5⟩
      simp only [List.length_map, maxLen] at h3
      omega
theorem row_one {α : Type} {P : Sh → DV → Prop} {sh : Sh} {row : List DV} {f : α → DV} {q : α → Prop} (hl : row.length = 1) (h : ∀ (j : Nat) (s : Sh) (y : DV), [sh][j]? = some s → row[j]? = some y → P s y) (hf : ∀ y, P sh y → ∃ a, y = f a ∧ q a) : ∃ a, row = [f a] ∧ q a := by
  match row, hl with
  | [y], _ =>
    obtain ⟨a, rfl, ha⟩ := hf y (h 0 sh y rfl rfl)
    exact ⟨a, rfl, ha⟩
theorem shOk_bytes {n : Nat} {x : DV} (h : shOk n (.sl [.int .u8]) x) : ∃ b : List UInt8, x = encB b ∧ (b.length : Int) ≤ 9223372036854775807 := by
  obtain ⟨as, h1, h2, _⟩ := shOk_rows (α := UInt8) (f := fun b => [.sc (.int .u8 b.toNat)]) (q := fun _ => True) h (fun m row hl hc => row_one (P := shOk m) hl hc fun y hy => by obtain ⟨b, rfl⟩ := shOk_u8 hy; exact ⟨b, rfl, trivial⟩)
  exact ⟨as, h1, h2⟩
theorem shOk_BB {n : Nat} {x : DV} (h : shOk n (.sl [.sl [.int .u8]]) x) : ∃ a : List (List UInt8), x = encBB a ∧ (a.length : Int) ≤ 9223372036854775807 ∧ ∀ b ∈ a, (b.length : Int) ≤ 9223372036854775807 :=
  shOk_rows (α := List UInt8) (f := fun b => [encB b]) (q := fun b => (b.length : Int) ≤ 9223372036854775807) h (fun m row hl hc => row_one (P := shOk m) hl hc fun y hy => shOk_bytes hy)
end Hearth

/- Arguments of laws as records. -/
namespace Hearth
open Go
abbrev shB : Sh := .sl [.int .u8]
abbrev shBB : Sh := .sl [.sl [.int .u8]]
abbrev shI : Sh := .sl [.int .i64]
abbrev i64 : Sh := .int .i64
abbrev shRow : List Sh := [shBB, i64, i64, i64, shBB, shB, shI]
abbrev shTask : List Sh := [i64, i64, shBB, i64, shBB, shBB, shI, shI, i64, i64, i64, i64, .sl shRow]

theorem shOk_i64 {n : Nat} {x : DV} (h : shOk n i64 x) : ∃ m : Int, x = .sc (.int .i64 m) := by
  obtain ⟨m, h, _⟩ := shOk_int h; exact ⟨m, h⟩
theorem shOk_I {n : Nat} {x : DV} (h : shOk n shI x) : ∃ l : List Int, x = encI l ∧ (l.length : Int) ≤ 9223372036854775807 := by
  obtain ⟨l, h1, h2, _⟩ := shOk_rows (α := Int) (f := fun n => [.sc (.int .i64 n)]) (q := fun _ => True) h (fun m _ hl hc => row_one (P := shOk m) hl hc fun _ hy => by obtain ⟨b, rfl⟩ := shOk_i64 hy; exact ⟨b, rfl, trivial⟩)
  exact ⟨l, h1, h2⟩
theorem shOk_B {n : Nat} {x : DV} (h : shOk n shBB x) : ∃ a : List (List UInt8), x = encBB a ∧ BigBB a := by
  obtain ⟨a, h1, h2, h3⟩ := shOk_BB h; exact ⟨a, h1, h2, h3⟩
theorem row_Rr {n : Nat} {row : List DV} (hl : row.length = 7) (h : ∀ (j : Nat) (s : Sh) (y : DV), shRow[j]? = some s → row[j]? = some y → shOk n s y) : ∃ r : Rr, row = r.cells ∧ BigR r := by
  match row, hl with
  | [c0, c1, c2, c3, c4, c5, c6], _ =>
    obtain ⟨a0, rfl, b0⟩ := shOk_B (h 0 _ c0 rfl rfl)
    obtain ⟨a1, rfl⟩ := shOk_i64 (h 1 _ c1 rfl rfl)
    obtain ⟨a2, rfl⟩ := shOk_i64 (h 2 _ c2 rfl rfl)
    obtain ⟨a3, rfl⟩ := shOk_i64 (h 3 _ c3 rfl rfl)
    obtain ⟨a4, rfl, b4⟩ := shOk_B (h 4 _ c4 rfl rfl)
    obtain ⟨a5, rfl, b5⟩ := shOk_bytes (h 5 _ c5 rfl rfl)
    obtain ⟨a6, rfl, b6⟩ := shOk_I (h 6 _ c6 rfl rfl)
    exact ⟨⟨a0, a1, a2, a3, a4, a5, a6⟩, rfl, b0, b4, b5, b6⟩
theorem shOk_Rs {n : Nat} {x : DV} (h : shOk n (.sl shRow) x) : ∃ l : List Rr, x = encR l ∧ BigRs l := by
  obtain ⟨l, h1, h2, h3⟩ := shOk_rows (α := Rr) (f := Rr.cells) (q := BigR) h (fun m row hl hc => row_Rr hl hc)
  exact ⟨l, h1, h2, h3⟩
theorem row_Task {n : Nat} {row : List DV} (hl : row.length = 13) (h : ∀ (j : Nat) (s : Sh) (y : DV), shTask[j]? = some s → row[j]? = some y → shOk n s y) : ∃ t : Task, row = t.cells ∧ BigT t := by
  match row, hl with
  | [c0, c1, c2, c3, c4, c5, c6, c7, c8, c9, c10, c11, c12], _ =>
    obtain ⟨a0, rfl⟩ := shOk_i64 (h 0 _ c0 rfl rfl)
    obtain ⟨a1, rfl⟩ := shOk_i64 (h 1 _ c1 rfl rfl)
    obtain ⟨a2, rfl, b2⟩ := shOk_B (h 2 _ c2 rfl rfl)
    obtain ⟨a3, rfl⟩ := shOk_i64 (h 3 _ c3 rfl rfl)
    obtain ⟨a4, rfl, b4⟩ := shOk_B (h 4 _ c4 rfl rfl)
    obtain ⟨a5, rfl, b5⟩ := shOk_B (h 5 _ c5 rfl rfl)
    obtain ⟨a6, rfl, b6⟩ := shOk_I (h 6 _ c6 rfl rfl)
    obtain ⟨a7, rfl, b7⟩ := shOk_I (h 7 _ c7 rfl rfl)
    obtain ⟨a8, rfl⟩ := shOk_i64 (h 8 _ c8 rfl rfl)
    obtain ⟨a9, rfl⟩ := shOk_i64 (h 9 _ c9 rfl rfl)
    obtain ⟨a10, rfl⟩ := shOk_i64 (h 10 _ c10 rfl rfl)
    obtain ⟨a11, rfl⟩ := shOk_i64 (h 11 _ c11 rfl rfl)
    obtain ⟨a12, rfl, b12⟩ := shOk_Rs (h 12 _ c12 rfl rfl)
    exact ⟨⟨a0, a1, a2, a3, a4, a5, a6, a7, a8, a9, a10, a11, a12⟩, rfl, b2, b4, b5, b6, b7, b12⟩
abbrev shZone : List Sh := [shBB, .sl shRow]
theorem row_Zone {n : Nat} {row : List DV} (hl : row.length = 2) (h : ∀ (j : Nat) (s : Sh) (y : DV), shZone[j]? = some s → row[j]? = some y → shOk n s y) : ∃ z : Zone, row = z.cells ∧ BigZ z := by
  match row, hl with
  | [c0, c1], _ =>
    obtain ⟨a0, rfl, b0⟩ := shOk_B (h 0 _ c0 rfl rfl)
    obtain ⟨a1, rfl, b1⟩ := shOk_Rs (h 1 _ c1 rfl rfl)
    exact ⟨⟨a0, a1⟩, rfl, b0, b1⟩
abbrev shQuestion : List Sh := [shBB, i64]
theorem shOk_bl {n : Nat} {x : DV} (h : shOk n .bool x) : ∃ b : Bool, x = .sc (.bool b) := shOk_bool h
theorem shOk_Bo {n : Nat} {x : DV} (h : shOk n (.sl [.bool]) x) : ∃ l : List Bool, x = encBo l ∧ (l.length : Int) ≤ 9223372036854775807 := by
  obtain ⟨l, h1, h2, _⟩ := shOk_rows (α := Bool) (f := fun n => [.sc (.bool n)]) (q := fun _ => True) h (fun m _ hl hc => row_one (P := shOk m) hl hc fun _ hy => by obtain ⟨b, rfl⟩ := shOk_bl hy; exact ⟨b, rfl, trivial⟩)
  exact ⟨l, h1, h2⟩
abbrev shEvent : List Sh := [i64, shB, i64, shB, shB, i64, .sl [.bool]]
theorem row_Event {n : Nat} {row : List DV} (hl : row.length = 7) (h : ∀ (j : Nat) (s : Sh) (y : DV), shEvent[j]? = some s → row[j]? = some y → shOk n s y) : ∃ e : Evt, row = e.cells ∧ BigE e := by
  match row, hl with
  | [c0, c1, c2, c3, c4, c5, c6], _ =>
    obtain ⟨a0, rfl⟩ := shOk_i64 (h 0 _ c0 rfl rfl)
    obtain ⟨a1, rfl, b1⟩ := shOk_bytes (h 1 _ c1 rfl rfl)
    obtain ⟨a2, rfl⟩ := shOk_i64 (h 2 _ c2 rfl rfl)
    obtain ⟨a3, rfl, b3⟩ := shOk_bytes (h 3 _ c3 rfl rfl)
    obtain ⟨a4, rfl, b4⟩ := shOk_bytes (h 4 _ c4 rfl rfl)
    obtain ⟨a5, rfl⟩ := shOk_i64 (h 5 _ c5 rfl rfl)
    obtain ⟨a6, rfl, b6⟩ := shOk_Bo (h 6 _ c6 rfl rfl)
    exact ⟨⟨a0, a1, a2, a3, a4, a5, a6⟩, rfl, b1, b3, b4, b6⟩
end Hearth
