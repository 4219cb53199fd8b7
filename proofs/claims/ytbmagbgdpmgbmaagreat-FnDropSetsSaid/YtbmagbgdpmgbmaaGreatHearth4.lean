/- An abstract machine for Go programs, and its soundness: the framework of this proof; no condition. -/
import Derived.WideShapes
import Derived.Test.YtbmagbgdpmgbmaaGreatHearth3
set_option linter.unusedVariables false
set_option linter.unusedSimpArgs false
/- Draws: what they tell is of a kind; names that are read. -/
namespace Hearth
open Go
def intsOf : List (List DV) → Option (List Int)
  | [] => some []
  | [.sc (.int .i64 n)] :: r => match intsOf r with
    | some l => some (n :: l)
    | none => none
  | _ => none
theorem intsOf_eq : ∀ {xs : List (List DV)} {l : List Int}, intsOf xs = some l → DV.sl 1 xs = encI l
  | [], l, h => by simp [intsOf] at h; subst h; rfl
  | x :: r, l, h => by
    unfold intsOf at h
    split at h
    · rename_i e; cases e
    · rename_i n r' e
      simp only [List.cons.injEq] at e
      obtain ⟨rfl, rfl⟩ := e
      split at h
      · rename_i l' hl
        simp only [Option.some.injEq] at h
        subst h
        have := intsOf_eq hl
        simp only [encI, DV.sl.injEq, true_and] at this ⊢
        rw [this]; rfl
      · cases h
    · cases h
def strsOf : List (List DV) → Option (List ByteArray)
  | [] => some []
  | [.sc (.string n)] :: r => match strsOf r with
    | some l => some (n :: l)
    | none => none
  | _ => none
theorem strsOf_eq : ∀ {xs : List (List DV)} {l : List ByteArray}, strsOf xs = some l → xs = l.map fun b => [.sc (.string b)]
  | [], l, h => by simp [strsOf] at h; subst h; rfl
  | x :: r, l, h => by
    unfold strsOf at h
    split at h
    · rename_i e; cases e
    · rename_i n r' e
      simp only [List.cons.injEq] at e
      obtain ⟨rfl, rfl⟩ := e
      split at h
      · rename_i l' hl
        simp only [Option.some.injEq] at h
        subst h
        rw [strsOf_eq hl]; rfl
      · cases h
    · cases h
section
variable {P : Program} {k : List It} {Q : Ex → St → Prop} {s : St} {r : T} {d : Option Nat} {q : Bool} {oi : Nat} {tags : List Nat}
/-- An element of a row of constant strings. -/
theorem kIadStr {x i : X} {j : IntKind} {n : Int} {id ver ev : Nat} {dp : Bool} {xs : List (List DV)} {l : List ByteArray} (hx : s.ev x = .c (.arr id ver)) (ho : s.ob id = ⟨ver, ev, .arr dp (.sl 1 xs)⟩) (hs : strsOf xs = some l) (hi : s.ev i = .vv (.int j n)) (hm : 0 ≤ n ∧ n < (l.length : Int))
    (h : kont P (.t r tags :: k) Q .normal (s.put d (.c (.ept id ver n.toNat 0)))) : kont P (.t (.op oi [] d none q (.iad 1 x i) r) tags :: k) Q .normal s :=
  kIadA hx hi ho rfl ⟨hm.1, by rw [strsOf_eq hs]; simp only [DV.len, List.length_map]; omega⟩ h
theorem kLoadStr {x : X} {id ver ev i : Nat} {dp : Bool} {xs : List (List DV)} {l : List ByteArray} (hx : s.ev x = .c (.ept id ver i 0)) (ho : s.ob id = ⟨ver, ev, .arr dp (.sl 1 xs)⟩) (hs : strsOf xs = some l) (hi : i < l.length) (hz : (l.all fun b => Nat.ble b.size 64) = true)
    (h : ∀ b : ByteArray, b.size ≤ 64 → kont P (.t r (if q then oi :: tags else tags) :: k) Q .normal ((s.heldIf q [id]).put d (.vv (.string b)))) : kont P (.t (.op oi [] d none q (.load none x) r) tags :: k) Q .normal s := by
  refine kLoadE hx ho (v := .vv (.string l[i])) ?_ (h _ ?_)
  · rw [strsOf_eq hs]
    rw [row_map 1 (fun b => [DV.sc (.string b)]) l i hi]
    rfl
  · have := List.all_eq_true.1 hz _ (List.getElem_mem hi)
    exact Nat.le_of_ble_eq_true this
/-- A remainder. -/
theorem kRem {x y : X} {a b : Int} (hx : s.ev x = .i a) (hy : s.ev y = .i b) (hb : b ≠ 0) (h : kont P (.t r tags :: k) Q .normal (s.put d (.i (a.tmod b)))) :
    kont P (.t (.op oi [] d none q (.bin .rem x y) r) tags :: k) Q .normal s :=
  kBin hx hy (by simp only [evBin, if_true, if_neg hb]) h
end
theorem tmod_in {a n : Int} (h0 : 0 ≤ a) (hn : 0 < n) : 0 ≤ a.tmod n ∧ a.tmod n < n := by
  rw [Int.tmod_eq_emod_of_nonneg h0]
  exact ⟨Int.emod_nonneg _ (by omega), Int.emod_lt_of_pos _ hn⟩
/-- Great letters as small ones. -/
def lowC (c : UInt8) : UInt8 := if 65 ≤ c ∧ c ≤ 90 then c + 32 else c
def lowerB (l : List UInt8) : List UInt8 := l.map lowC
/-- Names as they are read: what labels there are, and the one that is under way. -/
def rdStep (st : List (List UInt8) × List UInt8) (c : UInt8) : List (List UInt8) × List UInt8 := if c = 46 then (st.1 ++ [lowerB st.2], []) else (st.1, st.2 ++ [c])
def rdAll (b : List UInt8) : List (List UInt8) × List UInt8 := b.foldl rdStep ([], [])
def readL (b : List UInt8) : List (List UInt8) := if (rdAll b).2 = [] ∧ 0 < b.length then (rdAll b).1 else (rdAll b).1 ++ [lowerB (rdAll b).2]
def readOk (b : List UInt8) : Bool := decide (b = [46]) || nameOk (readL b)
def readN (b : List UInt8) : List (List UInt8) := if b = [46] then [] else if nameOk (readL b) then readL b else []
theorem readN_ok (b : List UInt8) : nameOk (readN b) = true := by
  unfold readN
  split
  · rfl
  · split
    · assumption
    · rfl
theorem rdAll_succ (b : List UInt8) (i : Nat) (h : i < b.length) : rdAll (b.take (i + 1)) = rdStep (rdAll (b.take i)) b[i] := by
  unfold rdAll; rw [← List.take_append_getElem h, List.foldl_append]; rfl
theorem rd_len (b : List UInt8) (i : Nat) : (rdAll (b.take i)).1.length + (rdAll (b.take i)).2.length ≤ i := by
  have key : ∀ (l : List UInt8) (st : List (List UInt8) × List UInt8), (l.foldl rdStep st).1.length + (l.foldl rdStep st).2.length ≤ st.1.length + st.2.length + l.length := by
    intro l
    induction l with
    | nil => intro st; simp
    | cons c l ih =>
      intro st
      have := ih (rdStep st c)
      have e : (rdStep st c).1.length + (rdStep st c).2.length ≤ st.1.length + st.2.length + 1 := by
        unfold rdStep; split <;> simp <;> omega
      simp only [List.foldl_cons, List.length_cons]; omega
  have := key (b.take i) ([], [])
  simp only [List.length_nil, List.length_take] at this
  unfold rdAll; omega
theorem nameOk_len {n : List (List UInt8)} (h : nameOk n = true) : n.length ≤ 6 := by
  unfold nameOk at h; simp at h; omega
theorem flat_mul {n : List (List UInt8)} {m : Nat} (h : ∀ b ∈ n, b.length ≤ m) : n.flatten.length ≤ n.length * m := by
  induction n with
  | nil => simp
  | cons x n ih =>
    have h1 := h x (List.mem_cons_self ..)
    have h2 := ih fun b hb => h b (List.mem_cons_of_mem _ hb)
    simp only [List.flatten_cons, List.length_append, List.length_cons, Nat.add_mul]
    omega
theorem nameOk_mem {n : List (List UInt8)} (h : nameOk n = true) : ∀ b ∈ n, 1 ≤ b.length ∧ b.length ≤ 15 := by
  intro b hb
  unfold nameOk at h
  simp only [Bool.and_eq_true, decide_eq_true_eq] at h
  have := List.all_eq_true.1 h.2 b hb
  unfold labelOk at this
  simp only [Bool.and_eq_true, decide_eq_true_eq] at this
  omega
theorem nameOk_flat {n : List (List UInt8)} (h : nameOk n = true) : n.flatten.length ≤ 90 := by
  have h6 := nameOk_len h
  have := flat_mul (m := 15) fun b hb => (nameOk_mem h b hb).2
  have : n.length * 15 ≤ 6 * 15 := Nat.mul_le_mul_right _ h6
  omega
theorem SmallBB.ok {n : List (List UInt8)} (h : nameOk n = true) : SmallBB n := by
  have h6 := nameOk_len h
  have := nameOk_flat h
  exact ⟨by omega, fun b hb => by have := nameOk_mem h b hb; omega, by omega⟩
end Hearth
namespace Hearth
open Go
def rdL (b : List UInt8) (i : Nat) : List (List UInt8) := if i ≤ b.length then (rdAll (b.take i)).1 else readL b
def rdW (b : List UInt8) (i : Nat) : List UInt8 := if i ≤ b.length then (rdAll (b.take i)).2 else []
theorem rd_char {b : List UInt8} {i : Nat} (h : i < b.length) (hc : b[i] ≠ 46) : rdL b (i + 1) = rdL b i ∧ rdW b (i + 1) = rdW b i ++ [b[i]] := by
  unfold rdL rdW
  rw [if_pos (by omega), if_pos (by omega), if_pos (by omega), if_pos (by omega), rdAll_succ _ _ h]
  unfold rdStep
  rw [if_neg hc]
  exact ⟨rfl, rfl⟩
theorem rd_dot {b : List UInt8} {i : Nat} (h : i < b.length) (hc : b[i] = 46) : rdL b (i + 1) = rdL b i ++ [lowerB (rdW b i)] ∧ rdW b (i + 1) = [] := by
  unfold rdL rdW
  rw [if_pos (by omega), if_pos (by omega), if_pos (by omega), if_pos (by omega), rdAll_succ _ _ h]
  unfold rdStep
  rw [if_pos hc]
  exact ⟨rfl, rfl⟩
theorem rd_last {b : List UInt8} : rdL b (b.length + 1) = readL b ∧ rdW b (b.length + 1) = [] := by
  unfold rdL rdW
  rw [if_neg (by omega), if_neg (by omega)]
  exact ⟨rfl, rfl⟩
theorem rd_end {b : List UInt8} : readL b = if rdW b b.length = [] ∧ 0 < b.length then rdL b b.length else rdL b b.length ++ [lowerB (rdW b b.length)] := by
  unfold rdL rdW readL
  rw [if_pos (Nat.le_refl _), if_pos (Nat.le_refl _), List.take_length]
theorem rd_lens (b : List UInt8) (i : Nat) (h : i ≤ b.length) : (rdL b i).length + (rdW b i).length ≤ i := by
  unfold rdL rdW
  rw [if_pos h, if_pos h]
  exact rd_len b i
theorem rdW_mem (b : List UInt8) (i : Nat) : (∀ x ∈ rdL b i, x.length ≤ b.length) ∧ (rdW b i).length ≤ b.length := by
  have key : ∀ (l : List UInt8) (st : List (List UInt8) × List UInt8) (m : Nat), (∀ x ∈ st.1, x.length ≤ m + l.length) → st.2.length ≤ m → (∀ x ∈ (l.foldl rdStep st).1, x.length ≤ m + l.length) ∧ (l.foldl rdStep st).2.length ≤ m + l.length := by
    intro l
    induction l with
    | nil => intro st m h1 h2; exact ⟨by simpa using h1, by simpa using h2⟩
    | cons c l ih =>
      intro st m h1 h2
      have := ih (rdStep st c) (m + 1) (by
        intro x hx
        unfold rdStep at hx
        split at hx
        · rcases List.mem_append.1 hx with hx | hx
          · have := h1 x hx; simp only [List.length_cons] at this; omega
          · simp only [List.mem_singleton] at hx
            subst hx
            simp only [lowerB, List.length_map]; omega
        · have := h1 x hx; simp only [List.length_cons] at this; omega) (by
        unfold rdStep
        split
        · simp
        · simp; omega)
      simp only [List.foldl_cons, List.length_cons]
      refine ⟨fun x hx => ?_, ?_⟩
      · have := this.1 x hx; omega
      · have := this.2; omega
  have all : ∀ j, j ≤ b.length → (∀ x ∈ (rdAll (b.take j)).1, x.length ≤ b.length) ∧ (rdAll (b.take j)).2.length ≤ b.length := by
    intro j hj
    have := key (b.take j) ([], []) 0 (by simp) (by simp)
    have hl : (b.take j).length ≤ b.length := by simp; omega
    exact ⟨fun x hx => by have := this.1 x hx; omega, by have := this.2; unfold rdAll; omega⟩
  unfold rdL rdW
  split
  · exact all i (by assumption)
  · refine ⟨?_, by simp⟩
    have := all b.length (Nat.le_refl _)
    rw [List.take_length] at this
    unfold readL
    split
    · exact this.1
    · intro x hx
      rcases List.mem_append.1 hx with hx | hx
      · exact this.1 x hx
      · simp only [List.mem_singleton] at hx
        subst hx
        simp only [lowerB, List.length_map]; exact this.2
theorem readL_small {b : List UInt8} (h : b.length ≤ 4194303) : (readL b).length ≤ 4194304 ∧ ∀ x ∈ readL b, x.length ≤ 4194304 := by
  have h1 := rdW_mem b (b.length + 1)
  have h2 := rd_lens b b.length (Nat.le_refl _)
  rw [rd_last.1] at h1
  refine ⟨?_, fun x hx => by have := h1.1 x hx; omega⟩
  rw [rd_end]
  split
  · omega
  · simp; omega
theorem eq46 (b : List UInt8) : ((ByteArray.mk b.toArray).toList == (ByteArray.mk #[46]).toList) = decide (b = [46]) := by
  rw [ByteArray.toList_eq, ByteArray.toList_eq]
  rw [Bool.eq_iff_iff]; simp
end Hearth
namespace Hearth
open Go
/-- Names as text. -/
def textL (a : List (List UInt8)) : List UInt8 := a.flatMap fun l => l ++ [46]
def textN (a : List (List UInt8)) : List UInt8 := if a = [] then [46] else textL a
theorem textL_take (a : List (List UInt8)) (i : Nat) (h : i < a.length) : textL (a.take (i + 1)) = textL (a.take i) ++ a[i] ++ [46] := by
  unfold textL
  rw [← List.take_append_getElem h, List.flatMap_append]
  simp
theorem textL_len (a : List (List UInt8)) : (textL a).length = a.length + a.flatten.length := by
  induction a with
  | nil => rfl
  | cons x a ih => simp only [textL, List.flatMap_cons, List.length_append, List.length_cons, List.flatten_cons, List.length_nil] at *; omega
theorem textL_le (a : List (List UInt8)) (i : Nat) : (textL (a.take i)).length ≤ a.length + a.flatten.length := by
  rw [textL_len]
  have := flat_le a i
  simp only [List.length_take]; omega
theorem bt_len (b : ByteArray) : b.toList.length = b.size := by
  rw [ByteArray.toList_eq]; exact Array.length_toList
end Hearth
namespace Hearth
theorem bent_app {l : List (List UInt8)} {z : List UInt8} (h : nameOk l = true) (hz : z.length ≤ 64) : (l ++ [z]).length ≤ 7 ∧ ∀ b ∈ l ++ [z], b.length ≤ 64 := by
  have h6 := nameOk_len h
  refine ⟨by simp; omega, fun b hb => ?_⟩
  rcases List.mem_append.1 hb with hb | hb
  · have := nameOk_mem h b hb; omega
  · simp only [List.mem_singleton] at hb; subst hb; exact hz
theorem bent_ok {l : List (List UInt8)} (h : nameOk l = true) : l.length ≤ 7 ∧ ∀ b ∈ l, b.length ≤ 64 := by
  have h6 := nameOk_len h
  exact ⟨by omega, fun b hb => by have := nameOk_mem h b hb; omega⟩
theorem SmallBB.bent {l : List (List UInt8)} (h : l.length ≤ 7 ∧ ∀ b ∈ l, b.length ≤ 64) : SmallBB l := by
  have := flat_mul (m := 64) h.2
  have : l.length * 64 ≤ 7 * 64 := Nat.mul_le_mul_right _ h.1
  exact ⟨by omega, fun b hb => by have := h.2 b hb; omega, by omega⟩
end Hearth
namespace Hearth
/-- A record as draws make it. -/
structure drawnR (r : Rr) : Prop where
  n : nameOk r.name = true
  t : nameOk r.to = true
  x : r.text.length ≤ 64
  m : r.nums.length ≤ 64
end Hearth
namespace Hearth
theorem drawnR.small {r : Rr} (h : drawnR r) : SmallR r := ⟨.ok h.n, .ok h.t, by have := h.x; omega, by have := h.m; omega⟩
end Hearth
namespace Hearth
def sameR (a b : Rr) : Bool := rrOk a && rrOk b && decide (cmpR a b = 0)
end Hearth
namespace Hearth
theorem sameR_refl {r : Rr} (h : rrOk r = true) : sameR r r = true := by
  unfold sameR; rw [h]; simp [cmpR_iff]
theorem filter_at {α : Type} {f : α → Bool} {l : List α} {i : Nat} (h : i < l.length) (hf : f l[i] = true) : ((l.take i).filter f).length < (l.filter f).length ∧ (l.filter f)[((l.take i).filter f).length]? = some l[i] := by
  have e : l.filter f = (l.take i).filter f ++ l[i] :: ((l.drop (i + 1)).filter f) := by
    conv => lhs; rw [← List.take_append_drop i l, List.filter_append, List.drop_eq_getElem_cons h, List.filter_cons, if_pos hf]
  rw [e]
  refine ⟨by simp, ?_⟩
  rw [List.getElem?_append_right (Nat.le_refl _)]
  simp
theorem inside_ok {l : List Rr} {z : List (List UInt8)} (h : insideN l z ≠ []) : insideN l z = insideR l z ∧ rrsOk l = true ∧ nameOk z = true := by
  unfold insideN at h ⊢
  split at h
  · rename_i hc
    simp only [Bool.and_eq_true] at hc
    rw [if_pos (by simp [hc])]
    exact ⟨rfl, hc⟩
  · exact absurd rfl h
theorem rrsOk_mem {l : List Rr} (h : rrsOk l = true) : ∀ r ∈ l, rrOk r = true := by
  unfold rrsOk at h
  simp only [Bool.and_eq_true] at h
  exact List.all_eq_true.1 h.2
theorem rrOk_name {r : Rr} (h : rrOk r = true) : nameOk r.name = true := by
  unfold rrOk at h
  simp only [Bool.and_eq_true] at h
  exact h.1.1.1
end Hearth

/- The abstract machine: a variable's row under another name. -/
namespace Hearth
open Go
theorem Sub.renBox {s : St} (id id1 id2 j : Nat) {ver ev v1 e1 v2 e2 : Nat} {k2 : OK} {cs : List AC} {dp : Bool} {x : DV} (hb : s.ob id = ⟨ver, ev, .box cs⟩) (h1 : s.ob id1 = ⟨v1, e1, .arr dp x⟩) (h2 : s.ob id2 = ⟨v2, e2, k2⟩) (hj : cs[j]? = some (.arr id1 v1)) (hv : Nat.ble 1 v1 = true)
    (hne : (!(Nat.beq id2 id) && !(Nat.beq id1 id) && !(Nat.beq id2 id1) && !(Nat.beq id2 alien)) = true) :
    Sub s ⟨s.sl, upd (upd (upd s.ob id1 ⟨v1 + 1, 0, .dead⟩) id2 ⟨v2 + 1, 0, .arr dp x⟩) id ⟨ver, ev, .box (cs.set j (.arr id2 (v2 + 1)))⟩, []⟩ := by
  simp only [Bool.and_eq_true, Bool.not_eq_true'] at hne
  obtain ⟨⟨⟨hne1, hne2⟩, hne3⟩, hal⟩ := hne
  have hne1 := Nat.ne_of_beq_eq_false hne1
  have hne2 := Nat.ne_of_beq_eq_false hne2
  have hne3 := Nat.ne_of_beq_eq_false hne3
  have hal := Nat.ne_of_beq_eq_false hal
  rintro P N w0 own0 hdr0 a w ⟨own, hdr, r⟩
  obtain ⟨b0, vs0, t0, p1, p2, p3, p4, p5⟩ := r.boxAt (id := id) (cs := cs) (by rw [hb])
  obtain ⟨a1, a2⟩ := r.arrAt (id := id1) (dp := dp) (x := x) (by rw [h1])
  have hal1 : id1 ≠ alien := r.ne_al (by rw [h1]; simp)
  have hu0 : ∀ u, vs0[j]? = some u → u = hdr id1 := fun u hu => by
    have := p5 j _ u hj hu
    exact this.2 (by rw [h1])
  have own1 : ∀ c, own id1 c → c < w.heap.size := fun c hc => r.lt id1 c hc
  have h := (r.hold []).make (id := id2) (ids := [id1]) (k := .arr dp x) (F := own id1) (v := hdr id1) (w' := w) ⟨hal, by simpa using Ne.symm hal1⟩ (by simp) (by simp) (by simpa using hne3) (Ext.refl _ _)
    (fun c hc => ⟨own1 c hc, .inr ⟨id1, .inr (by simp), hc⟩⟩) (fun rc => by
    unfold RO
    rw [ob_new (by simpa using hne3)]
    refine ⟨a1, ?_⟩
    have e1 : hdrTo hdr id2 [id1] (hdr id1) id2 = hdr id1 := by simp [hdrTo]
    have e2 : ownTo own id2 [id1] (own id1) id2 = own id1 := by simp [ownTo]
    rw [e1, e2]
    refine a2.mono (fun h => h) (fun c hc => ⟨rfl, hc.1, fun i hi => ?_⟩) (fun c hc => ⟨rfl, hc⟩)
    simp only [ownTo] at hi
    split at hi
    · exact hc.2 id1 hi
    · split at hi
      · exact hi
      · exact hc.2 i hi)
  obtain ⟨r1, rc1⟩ := h
  have hh : hdrTo hdr id2 [id1] (hdr id1) id2 = hdr id1 := by simp [hdrTo]
  have hhB : hdrTo hdr id2 [id1] (hdr id1) id = hdr id := by simp [hdrTo, Ne.symm hne1, Ne.symm hne2]
  have hob0 : ((({ s with hold := [] } : St).kill [id1]).newOb id2 (.arr dp x)).ob = upd (upd s.ob id1 ⟨v1 + 1, 0, .dead⟩) id2 ⟨v2 + 1, 0, .arr dp x⟩ := by
    funext i
    simp only [St.newOb, St.setOb, St.kill, upd, List.mem_singleton]
    by_cases hi : i = id2
    · simp only [hi, if_true, if_neg hne3, h2]
    · simp only [if_neg hi]
      by_cases hi1 : i = id1
      · simp only [hi1, if_true, h1]
      · simp only [if_neg hi1]
  have hsl0 : ((({ s with hold := [] } : St).kill [id1]).newOb id2 (.arr dp x)).sl = s.sl := rfl
  generalize hS : ((({ s with hold := [] } : St).kill [id1]).newOb id2 (.arr dp x)) = S at r1 rc1 hob0 hsl0
  obtain ⟨ssl, sob, shold⟩ := S
  simp only at hob0 hsl0
  subst hob0 hsl0
  generalize ownTo own id2 [id1] (own id1) = own1 at *
  generalize hdrTo hdr id2 [id1] (hdr id1) = hdr1 at *
  have hob : (upd (upd s.ob id1 ⟨v1 + 1, 0, .dead⟩) id2 ⟨v2 + 1, 0, .arr dp x⟩) id = ⟨ver, ev, .box cs⟩ := by rw [upd_ne _ _ _ _ (Ne.symm hne1), upd_ne _ _ _ _ (Ne.symm hne2)]; exact hb
  have hob2 : (upd (upd s.ob id1 ⟨v1 + 1, 0, .dead⟩) id2 ⟨v2 + 1, 0, OK.arr dp x⟩) id2 = ⟨v2 + 1, 0, .arr dp x⟩ := upd_same _ _ _
  generalize (upd (upd s.ob id1 ⟨v1 + 1, 0, .dead⟩) id2 ⟨v2 + 1, 0, OK.arr dp x⟩) = ob1 at *
  have rc2 : ∀ c u, RC P w own1 hdr1 ob1 c u → RC P w own1 hdr1 (upd ob1 id ⟨ver, ev, .box (cs.set j (.arr id2 (v2 + 1)))⟩) c u := by
    have key : ∀ i, ((upd ob1 id ⟨ver, ev, .box (cs.set j (.arr id2 (v2 + 1)))⟩) i).ver = (ob1 i).ver ∧ ((upd ob1 id ⟨ver, ev, .box (cs.set j (.arr id2 (v2 + 1)))⟩) i).ev = (ob1 i).ev ∧ ((upd ob1 id ⟨ver, ev, .box (cs.set j (.arr id2 (v2 + 1)))⟩) i).k.dv = (ob1 i).k.dv := by
      intro i
      unfold upd
      split
      · rename_i e; subst e; rw [hob]; exact ⟨rfl, rfl, rfl⟩
      · exact ⟨rfl, rfl, rfl⟩
    intro c u hc
    cases c <;> first
      | exact hc
      | (simp only [RC, (key _).1, (key _).2.1, (key _).2.2] at hc ⊢; exact hc)
  refine ⟨own1, hdr1, r1.n, r1.defers, fun t => ?_, fun i => ?_, ?_, ?_, r1.dis, r1.lt, r1.ext, fun i hi => r1.zero i ?_, r1.new, by simp⟩
  · have := r1.tmps t
    have hs : ∀ {x : AV} {u : Value}, RS P w own1 hdr1 ob1 x u → RS P w own1 hdr1 (upd ob1 id ⟨ver, ev, .box (cs.set j (.arr id2 (v2 + 1)))⟩) x u := by
      intro x u hx
      cases x with
      | c c => exact rc2 c u hx
      | g xs => obtain ⟨vs, e1, e2, e3⟩ := hx; exact ⟨vs, e1, e2, fun k x u a b => rc2 x u (e3 k x u a b)⟩
      | t xs =>
        obtain ⟨vs, e1, e2, e3⟩ := hx
        refine ⟨vs, e1, e2, fun k x u a b => ?_⟩
        have := e3 k x u a b
        cases x with
        | c c => exact rc2 c u this
        | g xs => obtain ⟨vs, f1, f2, f3⟩ := this; exact ⟨vs, f1, f2, fun k x u a b => rc2 x u (f3 k x u a b)⟩
        | t xs => exact this
    exact hs this
  · have ho := r1.objs i
    by_cases hi : i = id
    · subst hi
      obtain ⟨b, vs, t, g1, g2, g3, g4, g5⟩ := r1.boxAt (id := i) (cs := cs) (by show (ob1 i).k = _; rw [hob])
      have hvs : vs = vs0 := by
        rw [hhB, p1] at g1
        simp at g1
        subst g1
        rw [p3] at g3
        simp at g3
        exact g3.1.symm
      unfold RO
      simp only [upd_same]
      refine ⟨b, vs, t, g1, g2, g3, by simpa using g4, fun k c u h3 h4 => ?_⟩
      rw [List.getElem?_set] at h3
      split at h3
      · rename_i e
        subst e
        split at h3
        · simp at h3; subst h3
          refine rc2 _ _ ?_
          rw [hvs] at h4
          rw [hu0 u h4]
          show _ ≤ (ob1 id2).ver ∧ (_ = (ob1 id2).ver → _)
          rw [hob2]
          exact ⟨Nat.le_refl _, fun _ => hh.symm⟩
        · simp at h3
      · exact rc2 _ _ (g5 k c u h3 h4)
    · unfold RO at ho ⊢
      simp only [upd_ne _ _ _ _ hi]
      split at ho
      · rename_i hk; simp only [show (ob1 i).k = _ from hk]; exact ho
      · rename_i hk; simp only [show (ob1 i).k = _ from hk]; exact ho
      · rename_i cs' hk
        simp only [show (ob1 i).k = _ from hk]
        obtain ⟨b, vs, t, g1, g2, g3, g4, g5⟩ := ho
        exact ⟨b, vs, t, g1, g2, g3, g4, fun k c u a b => rc2 c u (g5 k c u a b)⟩
      · rename_i hk; simp only [show (ob1 i).k = _ from hk]; exact ho
      · rename_i hk; simp only [show (ob1 i).k = _ from hk]; exact ho
  · have hne' : alien ≠ id := fun e => by
      have := r1.al
      rw [e] at this
      change (ob1 id).k = _ at this
      rw [hob] at this
      cases this
    show (upd ob1 id _ alien).k = _
    rw [upd_ne _ _ _ _ hne']; exact r1.al
  · have hne' : alien ≠ id := fun e => by
      have := r1.al
      rw [e] at this
      change (ob1 id).k = _ at this
      rw [hob] at this
      cases this
    show (upd ob1 id _ alien).ver = _
    rw [upd_ne _ _ _ _ hne']; exact r1.alv
  · show (ob1 i).ver = 0
    have hi' : (upd ob1 id ⟨ver, ev, .box (cs.set j (.arr id2 (v2 + 1)))⟩ i).ver = 0 := hi
    unfold upd at hi'
    split at hi'
    · rename_i e; subst e; rw [hob]; exact hi'
    · exact hi'
end Hearth

/- Zones: a record that is added; zones as draws make them. -/
namespace Hearth
open Go
def ttlR (r x : Rr) : Rr := if x.name = r.name ∧ x.ty = r.ty then { x with ttl := r.ttl } else x
def addSt (r : Rr) (st : List Rr × Bool) (x : Rr) : List Rr × Bool :=
  let o := if st.2 = false ∧ cmpR r x ≤ 0 then st.1 ++ [r] else st.1
  (if cmpR r x = 0 then o else o ++ [ttlR r x], st.2 || decide (cmpR r x ≤ 0))
def addAt (l : List Rr) (r : Rr) : List Rr × Bool := l.foldl (addSt r) ([], false)
def addL (l : List Rr) (r : Rr) : List Rr := if (addAt l r).2 then (addAt l r).1 else (addAt l r).1 ++ [r]
def addZ (z : Zone) (r : Rr) : Zone := ⟨z.origin, addL z.rrs r⟩
def addOk (z : Zone) (r : Rr) : Bool := zoneOk z && rrOk r && zoneOk (addZ z r)
def addN (z : Zone) (r : Rr) : Zone := if zoneOk z && rrOk r then (if zoneOk (addZ z r) then addZ z r else z) else zeroZ
theorem cmpR_ttl (r x : Rr) : cmpR r (ttlR r x) = cmpR r x := by
  unfold ttlR; split <;> rfl
theorem ttlR_ok {r x : Rr} (hr : rrOk r = true) (hx : rrOk x = true) : rrOk (ttlR r x) = true := by
  unfold ttlR
  split
  · unfold rrOk at *
    simp only [Bool.and_eq_true] at *
    exact ⟨⟨hx.1.1, hr.1.2⟩, hx.2⟩
  · exact hx
theorem ttlR_small {r x : Rr} (hx : SmallR x) : SmallR (ttlR r x) := by
  unfold ttlR
  split
  · exact ⟨hx.n, hx.t, hx.x, hx.m⟩
  · exact hx
theorem addAt_succ (l : List Rr) (r : Rr) (i : Nat) (h : i < l.length) : addAt (l.take (i + 1)) r = addSt r (addAt (l.take i) r) l[i] := by
  unfold addAt; rw [← List.take_append_getElem h, List.foldl_append]; rfl
theorem addAt_len (l : List Rr) (r : Rr) (i : Nat) : (addAt (l.take i) r).1.length ≤ 2 * l.length := by
  have key : ∀ (l : List Rr) (st : List Rr × Bool), (l.foldl (addSt r) st).1.length ≤ st.1.length + 2 * l.length := by
    intro l
    induction l with
    | nil => intro st; simp
    | cons x l ih =>
      intro st
      have := ih (addSt r st x)
      have e : (addSt r st x).1.length ≤ st.1.length + 2 := by
        unfold addSt
        simp only
        split <;> split <;> simp
      simp only [List.foldl_cons, List.length_cons]; omega
  have := key (l.take i) ([], false)
  simp only [List.length_nil, List.length_take] at this
  unfold addAt; omega
theorem addAt_mem (l : List Rr) (r : Rr) (q : Rr → Prop) (h1 : q r) (h2 : ∀ x ∈ l, q (ttlR r x)) : ∀ x ∈ (addAt l r).1, q x := by
  have key : ∀ (l : List Rr) (st : List Rr × Bool), (∀ x ∈ l, q (ttlR r x)) → (∀ x ∈ st.1, q x) → ∀ x ∈ (l.foldl (addSt r) st).1, q x := by
    intro l
    induction l with
    | nil => intro st _ h; exact h
    | cons y l ih =>
      intro st hl hs
      refine ih _ (fun x hx => hl x (List.mem_cons_of_mem _ hx)) ?_
      have ho : ∀ x ∈ (if st.2 = false ∧ cmpR r y ≤ 0 then st.1 ++ [r] else st.1), q x := by
        intro x hx
        split at hx
        · rcases List.mem_append.1 hx with hx | hx
          · exact hs x hx
          · simp only [List.mem_singleton] at hx; rw [hx]; exact h1
        · exact hs x hx
      intro x hx
      unfold addSt at hx
      simp only at hx
      split at hx
      · exact ho x hx
      · rcases List.mem_append.1 hx with hx | hx
        · exact ho x hx
        · simp only [List.mem_singleton] at hx; rw [hx]; exact hl y (List.mem_cons_self ..)
  exact key l ([], false) h2 (by simp)
theorem addL_mem (l : List Rr) (r : Rr) (q : Rr → Prop) (h1 : q r) (h2 : ∀ x ∈ l, q (ttlR r x)) : ∀ x ∈ addL l r, q x := by
  have := addAt_mem l r q h1 h2
  unfold addL
  split
  · exact this
  · intro x hx
    rcases List.mem_append.1 hx with hx | hx
    · exact this x hx
    · simp only [List.mem_singleton] at hx; rw [hx]; exact h1
theorem addL_len (l : List Rr) (r : Rr) : (addL l r).length ≤ 2 * l.length + 1 := by
  have := addAt_len l r l.length
  rw [List.take_length] at this
  unfold addL
  split
  · omega
  · simp; omega
theorem rrOk_small {r : Rr} (h : rrOk r = true) : SmallR r := by
  unfold rrOk at h
  simp only [Bool.and_eq_true, decide_eq_true_eq] at h
  obtain ⟨⟨⟨h1, h2⟩, h3⟩, h4⟩ := h
  unfold dataOk at h4
  simp only [Bool.and_eq_true] at h4
  obtain ⟨⟨⟨k1, k2⟩, k3⟩, k4⟩ := h4
  refine ⟨.ok h1, ?_, ?_, ?_⟩
  · by_cases e : hasTo r.ty = true
    · rw [if_pos e] at k3; exact .ok k3
    · rw [if_neg e] at k3
      simp at k3
      rw [k3]; exact .nil
  · by_cases e : hasText r.ty = true
    · rw [if_pos e] at k4; simp at k4; omega
    · rw [if_neg e] at k4
      simp at k4
      rw [k4]; simp
  · by_cases e : r.ty = 6
    · rw [if_pos (by simpa using e)] at k1
      unfold numsOk at k1
      split at k1
      · omega
      · cases k1
    · rw [if_neg (by simpa using e)] at k1
      simp at k1
      rw [k1]; simp
theorem zoneOk_small {z : Zone} (h : zoneOk z = true) : SmallZ z := by
  have hm := zone_rrs h
  unfold zoneOk at h
  simp only [Bool.and_eq_true, decide_eq_true_eq] at h
  exact ⟨.ok h.1.1.1.1, ⟨by omega, fun r hr => rrOk_small (hm r hr)⟩⟩
theorem zoneOk_pos {z : Zone} (h : zoneOk z = true) : 0 < z.rrs.length ∧ z.rrs.length ≤ 60 := by
  have h2 := topIx_lt h
  unfold zoneOk at h
  simp only [Bool.and_eq_true, decide_eq_true_eq] at h
  omega
theorem addZ_small {z : Zone} {r : Rr} (hz : zoneOk z = true) (hr : rrOk r = true) : SmallZ (addZ z r) := by
  have hs := zoneOk_small hz
  have hp := zoneOk_pos hz
  have := addL_len z.rrs r
  exact ⟨hs.o, ⟨by show (addL z.rrs r).length ≤ _; omega, addL_mem _ _ _ (rrOk_small hr) fun x hx => rrOk_small (ttlR_ok hr (zone_rrs hz x hx))⟩⟩
theorem addN_ok {z : Zone} {r : Rr} (hz : zoneOk z = true) (hr : rrOk r = true) : zoneOk (addN z r) = true := by
  unfold addN
  rw [if_pos (by simp [hz, hr])]
  split
  · assumption
  · exact hz
theorem addN_small {z : Zone} {r : Rr} : SmallZ (addN z r) := by
  unfold addN
  split
  · rename_i h
    simp only [Bool.and_eq_true] at h
    split
    · exact addZ_small h.1 h.2
    · exact zoneOk_small h.1
  · exact .zero
/-- Records as draws make them. -/
theorem drawn_A {n : List (List UInt8)} {ttl a : Int} (hn : nameOk n = true) (ht : ttl ∈ ([0, 5, 60, 300, 100000] : List Int)) (ha : a ∈ ([1, 167772163, 167772164, 4294967295] : List Int)) : rrOk ⟨n, 1, ttl, a, [], [], []⟩ = true := by
  simp at ht ha
  unfold rrOk dataOk
  rcases ht with rfl | rfl | rfl | rfl | rfl <;> rcases ha with rfl | rfl | rfl | rfl <;> (simp only [hn]; rfl)
theorem drawn_soa {n t : List (List UInt8)} {ttl a b : Int} (hn : nameOk n = true) (hto : nameOk t = true) (ht : ttl ∈ ([0, 5, 60, 300, 100000] : List Int)) (ha : 0 ≤ a ∧ (a < 9 ∨ a = 0)) (hb : b ∈ ([0, 30, 100000] : List Int)) : rrOk ⟨n, 6, ttl, 0, t, [], [a, b]⟩ = true := by
  simp at ht hb
  have h1 : isW a = true := by unfold isW; simp; omega
  unfold rrOk dataOk
  rcases ht with rfl | rfl | rfl | rfl | rfl <;> rcases hb with rfl | rfl | rfl <;> (simp [hn, hto, h1, hasTo, hasText, tyOk])
theorem drawn_to {n t : List (List UInt8)} {ty ttl : Int} (hn : nameOk n = true) (hto : nameOk t = true) (hy : ty ∈ ([1, 1, 2, 5, 6, 12, 16, 49] : List Int)) (h6 : ty ≠ 6) (h1 : hasTo ty = true) (ht : ttl ∈ ([0, 5, 60, 300, 100000] : List Int)) : rrOk ⟨n, ty, ttl, 0, t, [], []⟩ = true := by
  simp at hy ht
  unfold rrOk dataOk
  rcases hy with rfl | rfl | rfl | rfl | rfl | rfl | rfl <;> first | (exact absurd h1 (by decide)) | (exact absurd rfl h6) | (rcases ht with rfl | rfl | rfl | rfl | rfl <;> (simp [hn, hto, hasTo, hasText, tyOk]))
theorem drawn_text {n : List (List UInt8)} {ty ttl : Int} {x : List UInt8} (hn : nameOk n = true) (hy : ty ∈ ([1, 1, 2, 5, 6, 12, 16, 49] : List Int)) (ha : ty ≠ 1) (h1 : hasTo ty = false) (ht : ttl ∈ ([0, 5, 60, 300, 100000] : List Int)) (hx : x.length ≤ 40) : rrOk ⟨n, ty, ttl, 0, [], x, []⟩ = true := by
  simp at hy ht
  unfold rrOk dataOk
  rcases hy with rfl | rfl | rfl | rfl | rfl | rfl | rfl <;> first | (exact absurd h1 (by decide)) | (exact absurd rfl ha) | (rcases ht with rfl | rfl | rfl | rfl | rfl <;> (simp [hn, hasTo, hasText, tyOk]; omega))
end Hearth
namespace Hearth
theorem rrOk_lens {r : Rr} (h : rrOk r = true) : r.nums.length ≤ 2 ∧ r.text.length ≤ 40 := by
  unfold rrOk at h
  simp only [Bool.and_eq_true, decide_eq_true_eq] at h
  obtain ⟨_, h4⟩ := h
  unfold dataOk at h4
  simp only [Bool.and_eq_true] at h4
  obtain ⟨⟨⟨k1, k2⟩, k3⟩, k4⟩ := h4
  constructor
  · by_cases e : r.ty = 6
    · rw [if_pos (by simpa using e)] at k1
      unfold numsOk at k1
      split at k1
      · omega
      · cases k1
    · rw [if_neg (by simpa using e)] at k1
      simp at k1
      rw [k1]; simp
  · by_cases e : hasText r.ty = true
    · rw [if_pos e] at k4; simp at k4; omega
    · rw [if_neg e] at k4
      simp at k4
      rw [k4]; simp
end Hearth
namespace Hearth
def serialN (z : Zone) : Int := if zoneOk z then ((z.rrs.getD (topIx z.rrs).toNat emptyR).nums.getD 0 0) else 0
theorem rdata_soa' {r : Rr} (h : rrOk r = true) (ht : r.ty = 6) : r.nums.length = 2 ∧ 0 ≤ r.nums.getD 0 0 ∧ r.nums.getD 0 0 < 4294967296 := by
  unfold rrOk at h
  simp only [Bool.and_eq_true, decide_eq_true_eq] at h
  obtain ⟨_, h4⟩ := h
  unfold dataOk at h4
  simp only [Bool.and_eq_true] at h4
  have k1 := h4.1.1.1
  rw [if_pos (by simpa using ht)] at k1
  unfold numsOk at k1
  split at k1
  · rename_i hl
    have hl' : r.nums.length = 2 := by omega
    refine ⟨hl', ?_⟩
    simp only [Bool.and_eq_true, decide_eq_true_eq] at k1
    have := k1.1
    unfold isW at this
    simp only [Bool.and_eq_true, decide_eq_true_eq] at this
    rw [List.getD_eq_getElem?_getD, List.getElem?_eq_getElem (by omega)]
    exact this
  · cases k1
theorem serialN_eq {z : Zone} (h : zoneOk z = true) : ∃ (h0 : (topIx z.rrs).toNat < z.rrs.length) (h1 : 0 < (z.rrs[(topIx z.rrs).toNat]).nums.length), serialN z = (z.rrs[(topIx z.rrs).toNat]).nums[0] := by
  have ht := topIx_lt h
  have h0 : (topIx z.rrs).toNat < z.rrs.length := by omega
  have s1 := (rdata_soa' (zone_rrs h _ (List.getElem_mem h0)) (topIx_ty h h0)).1
  have h1 : 0 < (z.rrs[(topIx z.rrs).toNat]).nums.length := by omega
  refine ⟨h0, h1, ?_⟩
  unfold serialN
  have e1 : z.rrs.getD (topIx z.rrs).toNat emptyR = z.rrs[(topIx z.rrs).toNat] := by rw [List.getD_eq_getElem?_getD, List.getElem?_eq_getElem h0]; rfl
  rw [if_pos h, e1, List.getD_eq_getElem?_getD, List.getElem?_eq_getElem h1]; rfl
end Hearth

namespace Hearth
theorem rrOk_to {r : Rr} {n t : List (List UInt8)} (h : rrOk r = true) (hn : nameOk n = true) (ht : (if hasTo r.ty then nameOk t else ((t.length : Int) == 0)) = true) : rrOk ⟨n, r.ty, r.ttl, r.addr, t, r.text, r.nums⟩ = true := by
  unfold rrOk dataOk at *
  simp only [Bool.and_eq_true] at *
  obtain ⟨⟨⟨h1, h2⟩, h3⟩, ⟨⟨⟨k1, k2⟩, k3⟩, k4⟩⟩ := h
  exact ⟨⟨⟨hn, h2⟩, h3⟩, ⟨⟨⟨k1, k2⟩, ht⟩, k4⟩⟩
theorem rrOk_name2 {r : Rr} {n : List (List UInt8)} (h : rrOk r = true) (hn : nameOk n = true) : rrOk ⟨n, r.ty, r.ttl, r.addr, r.to, r.text, r.nums⟩ = true := by
  unfold rrOk dataOk at *
  simp only [Bool.and_eq_true] at *
  obtain ⟨⟨⟨h1, h2⟩, h3⟩, h4⟩ := h
  exact ⟨⟨⟨hn, h2⟩, h3⟩, h4⟩
theorem home_ok : ∀ s ∈ ([1, 7, 4294967295] : List Int), zoneOk (newZ [[104, 111, 109, 101]] s) = true := by decide
end Hearth
namespace Hearth
open Go
section
variable {α : Type} {P : Program} {k : List It} {Q : Ex → St → Prop} {s : St} {d : Option Nat} {q : Bool} {r : T} {oi : Nat} {tags : List Nat} {f : α → List DV} {l : List α} {sz : Nat}
/-- One's own row from a place on: it is given up. -/
theorem kCutAL {x lo : X} {j : IntKind} {n : Int} {a id ver ev : Nat} {dp : Bool} (hx : s.ev x = .c (.arr id ver)) (ho : s.ob id = ⟨ver, ev, .arr dp (.sl sz (l.map f))⟩) (hh : s.hold.contains id = false) (hv : Nat.ble 1 ver = true) (hlo : s.ev lo = .vv (.int j n)) (hn : n = Int.ofNat a) (ha : n ≤ (l.length : Int))
    (h : kont P (.t r tags :: k) Q .normal ((s.setOb id ⟨ver, ev + 1, .frz (.sl sz (l.map f))⟩).put d (.dv (.sl sz ((l.drop a).map f))))) :
    kont P (.t (.op oi [] d none q (.cut sz x (some lo) none) r) tags :: k) Q .normal s :=
  kCutA (a := a) (b := l.length) hx ho hh (Nat.le_of_ble_eq_true hv) rfl rfl (.inr ⟨j, congrArg some (by subst hn; exact hlo)⟩) (.inl ⟨rfl, (len_map _ _ _).symm⟩) ⟨le_of hn ha, by rw [len_map]; exact Nat.le_refl _⟩ (by rw [cut_map, take_all]; exact h)
end
end Hearth

/- Records are in order: what orders are, and zones as lists in order. -/
namespace Hearth
open Go
/-- A comparison that orders. -/
structure Cmp {α : Type} (c : α → α → Int) : Prop where
  neg : ∀ a b, c b a = - c a b
  tr : ∀ a b d, c a b ≤ 0 → c b d ≤ 0 → c a d ≤ 0
namespace Cmp
variable {α β : Type} {c c1 c2 : α → α → Int}
theorem self (h : Cmp c) (a : α) : c a a = 0 := by have := h.neg a a; omega
theorem lt_le (h : Cmp c) {a b d : α} (h1 : c a b < 0) (h2 : c b d ≤ 0) : c a d < 0 := by
  have h3 := h.tr a b d (by omega) h2
  rcases Int.lt_or_le (c a d) 0 with h4 | h4
  · exact h4
  · have e := h.neg a d
    have := h.tr b d a h2 (by omega)
    have e2 := h.neg a b
    omega
theorem le_lt (h : Cmp c) {a b d : α} (h1 : c a b ≤ 0) (h2 : c b d < 0) : c a d < 0 := by
  have h3 := h.tr a b d h1 (by omega)
  rcases Int.lt_or_le (c a d) 0 with h4 | h4
  · exact h4
  · have e := h.neg a d
    have := h.tr d a b (by omega) h1
    have e2 := h.neg b d
    omega
theorem lt (h : Cmp c) {a b d : α} (h1 : c a b < 0) (h2 : c b d < 0) : c a d < 0 := h.lt_le h1 (by omega)
theorem zero_both (h : Cmp c) {a b d : α} (h1 : c a b ≤ 0) (h2 : c b d ≤ 0) (h3 : c a d = 0) : c a b = 0 ∧ c b d = 0 := by
  rcases Int.lt_or_le (c a b) 0 with h4 | h4
  · have := h.lt_le h4 h2; omega
  · rcases Int.lt_or_le (c b d) 0 with h5 | h5
    · have := h.le_lt h1 h5; omega
    · exact ⟨by omega, by omega⟩
theorem lex (h1 : Cmp c1) (h2 : Cmp c2) : Cmp (fun a b => if c1 a b = 0 then c2 a b else c1 a b) := by
  refine ⟨fun a b => ?_, fun a b d g1 g2 => ?_⟩
  · have e1 := h1.neg a b
    have e2 := h2.neg a b
    show (if c1 b a = 0 then c2 b a else c1 b a) = - (if c1 a b = 0 then c2 a b else c1 a b)
    by_cases h : c1 a b = 0
    · rw [if_pos h, if_pos (by omega)]; exact e2
    · rw [if_neg h, if_neg (by omega)]; exact e1
  · have g1 : (if c1 a b = 0 then c2 a b else c1 a b) ≤ 0 := g1
    have g2 : (if c1 b d = 0 then c2 b d else c1 b d) ≤ 0 := g2
    show (if c1 a d = 0 then c2 a d else c1 a d) ≤ 0
    have k1 : c1 a b ≤ 0 := by
      by_cases h : c1 a b = 0
      · omega
      · rw [if_neg h] at g1; exact g1
    have k2 : c1 b d ≤ 0 := by
      by_cases h : c1 b d = 0
      · omega
      · rw [if_neg h] at g2; exact g2
    by_cases h : c1 a d = 0
    · obtain ⟨z1, z2⟩ := h1.zero_both k1 k2 h
      rw [if_pos z1] at g1
      rw [if_pos z2] at g2
      rw [if_pos h]
      exact h2.tr a b d g1 g2
    · rw [if_neg h]; exact h1.tr a b d k1 k2
theorem comap (h : Cmp c) (f : β → α) : Cmp (fun a b => c (f a) (f b)) := ⟨fun a b => h.neg _ _, fun a b d => h.tr _ _ _⟩
end Cmp
theorem bl_trans : ∀ {a b c : List UInt8}, Op.bytesLess a b = true → Op.bytesLess b c = true → Op.bytesLess a c = true
  | a, [], _, h, _ => by cases a <;> simp [Op.bytesLess] at h
  | _, b :: _, [], _, h => by simp [Op.bytesLess] at h
  | [], b :: x, c :: y, _, _ => rfl
  | a :: z, b :: x, c :: y, h1, h2 => by
    simp only [Op.bytesLess, Bool.or_eq_true, decide_eq_true_eq, Bool.and_eq_true, beq_iff_eq] at *
    rcases h1 with h1 | ⟨rfl, h1⟩ <;> rcases h2 with h2 | ⟨rfl, h2⟩
    · exact .inl (UInt8.lt_trans h1 h2)
    · exact .inl h1
    · exact .inl h2
    · exact .inr ⟨rfl, bl_trans h1 h2⟩
theorem bl_total : ∀ (a b : List UInt8), Op.bytesLess a b = true ∨ a = b ∨ Op.bytesLess b a = true
  | [], [] => .inr (.inl rfl)
  | [], _ :: _ => .inl rfl
  | _ :: _, [] => .inr (.inr rfl)
  | a :: x, b :: y => by
    simp only [Op.bytesLess, Bool.or_eq_true, decide_eq_true_eq, Bool.and_eq_true, beq_iff_eq]
    rcases (show a < b ∨ a = b ∨ b < a by
      rcases Nat.lt_trichotomy a.toNat b.toNat with h | h | h
      · exact .inl (UInt8.lt_iff_toNat_lt.2 h)
      · exact .inr (.inl (UInt8.toNat_inj.1 h))
      · exact .inr (.inr (UInt8.lt_iff_toNat_lt.2 h))) with h | h | h
    · exact .inl (.inl h)
    · subst h
      rcases bl_total x y with h | h | h
      · exact .inl (.inr ⟨rfl, h⟩)
      · subst h; exact .inr (.inl rfl)
      · exact .inr (.inr (.inr ⟨rfl, h⟩))
    · exact .inr (.inr (.inl h))
theorem bl_asymm {a b : List UInt8} (h : Op.bytesLess a b = true) : Op.bytesLess b a = false := by
  cases e : Op.bytesLess b a with
  | false => rfl
  | true => have := bl_trans h e; rw [bytesLess_irrefl] at this; cases this
theorem cmpB_lt {a b : List UInt8} (h : Op.bytesLess a b = true) : cmpB a b = -1 := by unfold cmpB; rw [if_pos h]
theorem cmpB_gt {a b : List UInt8} (h : Op.bytesLess b a = true) : cmpB a b = 1 := by
  have h1 := bl_asymm h
  have hne : a ≠ b := by rintro rfl; rw [bytesLess_irrefl] at h; cases h
  unfold cmpB; rw [if_neg (by simp [h1]), if_pos (by simp [h1, hne])]
theorem cmpB_self (a : List UInt8) : cmpB a a = 0 := (cmpB_iff a a).2 rfl
theorem cmpB_cmp : Cmp cmpB := by
  refine ⟨fun a b => ?_, fun a b d h1 h2 => ?_⟩
  · rcases bl_total a b with h | h | h
    · rw [cmpB_lt h, cmpB_gt h]; rfl
    · subst h; rw [cmpB_self]; rfl
    · rw [cmpB_lt h, cmpB_gt h]
  · rcases bl_total a b with h | h | h
    · rcases bl_total b d with g | g | g
      · rw [cmpB_lt (bl_trans h g)]; decide
      · subst g; rw [cmpB_lt h]; decide
      · rw [cmpB_gt g] at h2; omega
    · subst h; exact h2
    · rw [cmpB_gt h] at h1; omega
theorem cmpL_neg : ∀ (a b : List (List UInt8)), cmpL b a = - cmpL a b
  | [], [] => rfl
  | [], _ :: _ => rfl
  | _ :: _, [] => rfl
  | x :: a, y :: b => by
    have h := cmpB_cmp.neg x y
    simp only [cmpL]
    by_cases e : cmpB x y = 0
    · rw [if_pos e, if_pos (by omega)]; exact cmpL_neg a b
    · rw [if_neg e, if_neg (by omega)]; exact h
theorem cmpL_tr : ∀ (a b d : List (List UInt8)), cmpL a b ≤ 0 → cmpL b d ≤ 0 → cmpL a d ≤ 0
  | [], _, [], _, _ => by simp [cmpL]
  | [], _, _ :: _, _, _ => by simp [cmpL]
  | _ :: _, [], _, h, _ => by simp [cmpL] at h
  | _ :: _, _ :: _, [], _, h => by simp [cmpL] at h
  | x :: a, y :: b, z :: d, h1, h2 => by
    simp only [cmpL] at *
    have k1 : cmpB x y ≤ 0 := by
      by_cases h : cmpB x y = 0
      · omega
      · rw [if_neg h] at h1; exact h1
    have k2 : cmpB y z ≤ 0 := by
      by_cases h : cmpB y z = 0
      · omega
      · rw [if_neg h] at h2; exact h2
    by_cases h : cmpB x z = 0
    · obtain ⟨z1, z2⟩ := cmpB_cmp.zero_both k1 k2 h
      rw [if_pos z1] at h1
      rw [if_pos z2] at h2
      rw [if_pos h]
      exact cmpL_tr a b d h1 h2
    · rw [if_neg h]; exact cmpB_cmp.tr _ _ _ k1 k2
theorem cmpN_cmp : Cmp cmpN := (Cmp.mk cmpL_neg cmpL_tr).comap List.reverse
theorem cmpI_cmp : Cmp cmpI := by
  refine ⟨fun a b => ?_, fun a b d h1 h2 => ?_⟩
  · unfold cmpI; split <;> split <;> omega
  · unfold cmpI at *
    split at h1 <;> split at h2 <;> (try split at h1) <;> (try split at h2) <;> split <;> (try split) <;> omega
theorem cmpR_cmp : Cmp cmpR := (cmpN_cmp.comap Rr.name).lex ((cmpI_cmp.comap Rr.ty).lex (cmpB_cmp.comap rdata))
/-- Records in order, no two alike. -/
def Sorted (l : List Rr) : Prop := l.Pairwise fun a b => cmpR a b < 0
theorem sorted_of_prev {l : List Rr} (h : ∀ i < l.length, prevB l i = true) : Sorted l := by
  have step : ∀ i (hi : i + 1 < l.length), cmpR l[i] l[i + 1] < 0 := by
    intro i hi
    have := h (i + 1) hi
    unfold prevB at this
    rw [dif_pos ⟨by omega, hi⟩] at this
    simpa using this
  have far : ∀ (k i : Nat) (hk : i + k + 1 < l.length), cmpR l[i] l[i + k + 1] < 0 := by
    intro k
    induction k with
    | zero => intro i hk; exact step i hk
    | succ k ih =>
      intro i hk
      exact cmpR_cmp.lt (ih i (by omega)) (step (i + k + 1) (by omega))
  unfold Sorted
  rw [List.pairwise_iff_getElem]
  intro i j hi hj hij
  have := far (j - i - 1) i (by omega)
  have e : i + (j - i - 1) + 1 = j := by omega
  simp only [e] at this
  exact this
theorem prev_of_sorted {l : List Rr} (h : Sorted l) (i : Nat) : prevB l i = true := by
  unfold prevB
  split
  · rename_i hi
    unfold Sorted at h
    rw [List.pairwise_iff_getElem] at h
    exact decide_eq_true (h (i - 1) i (by omega) hi.2 (by omega))
  · rfl
/-- What a zone's records are. -/
structure ZoneP (z : Zone) : Prop where
  o : nameOk z.origin = true
  len : z.rrs.length ≤ 60
  ok : ∀ r ∈ z.rrs, rrOk r = true
  sorted : Sorted z.rrs
  under : ∀ r ∈ z.rrs, underN r.name z.origin = true
  top : ∀ r ∈ z.rrs, r.ty = 6 → r.name = z.origin
  alone : ∀ r ∈ z.rrs, r.ty = 5 → (setOf z.rrs r.name 255).length ≤ 1
  one : zTops z.rrs = 1
theorem zoneP {z : Zone} : zoneOk z = true ↔ ZoneP z := by
  constructor
  · intro h
    have hm := zone_rrs h
    unfold zoneOk at h
    simp only [Bool.and_eq_true, decide_eq_true_eq, List.all_eq_true, List.mem_range] at h
    obtain ⟨⟨⟨⟨h1, h2⟩, h3⟩, h4⟩, h5⟩ := h
    have at_ : ∀ i (hi : i < z.rrs.length), underN z.rrs[i].name z.origin = true ∧ prevB z.rrs i = true ∧ aloneR z.rrs i = true ∧ (z.rrs[i].ty = 6 → z.rrs[i].name = z.origin) := by
      intro i hi
      have := h4 i hi
      rw [zAt_eq hi] at this
      simp only [Bool.and_eq_true, Bool.or_eq_true, Bool.not_eq_true', beq_eq_false_iff_ne, decide_eq_true_eq] at this
      exact ⟨this.1.1.1, this.1.1.2, this.1.2, fun e => this.2.resolve_left fun h => h e⟩
    refine ⟨h1, h2, hm, sorted_of_prev fun i hi => (at_ i hi).2.1, fun r hr => ?_, fun r hr => ?_, fun r hr h5 => ?_, h5⟩
    · obtain ⟨i, hi, rfl⟩ := List.mem_iff_getElem.1 hr
      exact (at_ i hi).1
    · obtain ⟨i, hi, rfl⟩ := List.mem_iff_getElem.1 hr
      exact (at_ i hi).2.2.2
    · obtain ⟨i, hi, rfl⟩ := List.mem_iff_getElem.1 hr
      have := (at_ i hi).2.2.1
      rw [aloneR_eq hi] at this
      simpa [h5] using this
  · intro h
    unfold zoneOk
    simp only [Bool.and_eq_true, decide_eq_true_eq, List.all_eq_true, List.mem_range]
    refine ⟨⟨⟨⟨h.o, h.len⟩, h.ok⟩, fun i hi => ?_⟩, h.one⟩
    rw [zAt_eq hi]
    have hr := List.getElem_mem hi
    simp only [Bool.and_eq_true, Bool.or_eq_true, Bool.not_eq_true', beq_eq_false_iff_ne, decide_eq_true_eq]
    refine ⟨⟨⟨h.under _ hr, prev_of_sorted h.sorted i⟩, ?_⟩, ?_⟩
    · rw [aloneR_eq hi]
      by_cases e : z.rrs[i].ty = 5
      · simp [e, h.alone _ hr e]
      · simp [e]
    · by_cases e : z.rrs[i].ty = 6
      · exact .inr (h.top _ hr e)
      · exact .inl e
theorem setOf_filter_le (f : Rr → Bool) (l : List Rr) (n : List (List UInt8)) (t : Int) : (setOf (l.filter f) n t).length ≤ (setOf l n t).length := by
  unfold setOf
  rw [List.filter_filter]
  have : (fun a => (decide (a.name = n) && (t == 255 || a.ty == t)) && f a) = fun a => f a && (decide (a.name = n) && (t == 255 || a.ty == t)) := by funext a; exact Bool.and_comm _ _
  rw [this, ← List.filter_filter]
  exact List.length_filter_le _ _
/-- A zone without some records, its top apart, is one. -/
theorem zone_kept {z : Zone} (h : zoneOk z = true) {f : Rr → Bool} (hf : ∀ r ∈ z.rrs, r.ty = 6 → f r = true) : zoneOk (keptR z f) = true := by
  have hz := zoneP.1 h
  refine zoneP.2 ⟨hz.o, Nat.le_trans (List.length_filter_le _ _) hz.len, fun r hr => hz.ok r (List.mem_filter.1 hr).1, hz.sorted.filter _, fun r hr => hz.under r (List.mem_filter.1 hr).1, fun r hr => hz.top r (List.mem_filter.1 hr).1,
    fun r hr h5 => Nat.le_trans (setOf_filter_le f z.rrs r.name 255) (hz.alone r (List.mem_filter.1 hr).1 h5), ?_⟩
  have e : (z.rrs.filter f).filter (fun r => r.ty == 6) = z.rrs.filter (fun r => r.ty == 6) := by
    rw [List.filter_filter]
    refine List.filter_congr fun r hr => ?_
    by_cases e : r.ty = 6
    · simp [e, hf r hr e]
    · simp [e]
  have := hz.one
  unfold zTops at *
  show (((z.rrs.filter f).filter fun r => r.ty == 6).length : Int) = 1
  rw [e]; exact this
end Hearth
namespace Hearth
theorem bump1_name (r : Rr) : (bump1 r).name = r.name := (bump1_len r).1
theorem bump1_ty (r : Rr) : (bump1 r).ty = r.ty := by unfold bump1 bumpR; split <;> rfl
theorem bump1_ok {r : Rr} (h : rrOk r = true) : rrOk (bump1 r) = true := by
  unfold bump1
  split
  · rename_i ht
    obtain ⟨s1, s2, s3⟩ := rdata_soa' h ht
    unfold rrOk dataOk at *
    simp only [Bool.and_eq_true] at *
    obtain ⟨⟨⟨h1, h2⟩, h3⟩, ⟨⟨⟨k1, k2⟩, k3⟩, k4⟩⟩ := h
    refine ⟨⟨⟨h1, h2⟩, h3⟩, ⟨⟨⟨?_, k2⟩, k3⟩, k4⟩⟩
    show (if r.ty == 6 then _ else _) = true
    rw [if_pos (by simpa using ht)] at k1 ⊢
    unfold numsOk at k1 ⊢
    have hl : (bumpR r).nums.length = r.nums.length := by simp [bumpR]
    rw [dif_pos (by omega)] at k1
    rw [dif_pos (by omega)]
    simp only [Bool.and_eq_true, decide_eq_true_eq] at k1 ⊢
    refine ⟨?_, ?_⟩
    · have : (bumpR r).nums[0]'(by omega) = (r.nums.getD 0 0 + 1) % 4294967296 := by simp [bumpR]
      rw [this]
      unfold isW
      simp only [Bool.and_eq_true, decide_eq_true_eq]
      omega
    · have : (bumpR r).nums[1]'(by omega) = r.nums[1]'(by omega) := by simp [bumpR]
      rw [this]; exact k1.2
  · exact h
theorem map_filter_ty {l : List Rr} (p : Rr → Bool) (hp : ∀ r, p (bump1 r) = p r) : (l.map bump1).filter p = (l.filter p).map bump1 := by
  rw [List.filter_map]
  congr 1
  refine List.filter_congr fun r _ => ?_
  exact hp r
theorem two_tops {l : List Rr} (h : zTops l = 1) {i j : Nat} (hi : i < l.length) (hj : j < l.length) (hne : i ≠ j) (h1 : l[i].ty = 6) (h2 : l[j].ty = 6) : False := by
  have := filter_two (f := fun r : Rr => r.ty == 6) hi hj (Ne.symm hne) (by simpa using h1) (by simpa using h2)
  unfold zTops at h
  omega
theorem zone_bump {z : Zone} (h : zoneOk z = true) : zoneOk (bumpZ z) = true := by
  have hz := zoneP.1 h
  have e : (bumpZ z).rrs = z.rrs.map bump1 := (bump_all h).symm
  have eo : (bumpZ z).origin = z.origin := rfl
  refine zoneP.2 ⟨hz.o, ?_, fun r hr => ?_, ?_, fun r hr => ?_, fun r hr => ?_, fun r hr => ?_, ?_⟩
  · rw [e, List.length_map]; exact hz.len
  · rw [e] at hr
    obtain ⟨x, hx, rfl⟩ := List.mem_map.1 hr
    exact bump1_ok (hz.ok x hx)
  · rw [e]
    unfold Sorted
    rw [List.pairwise_iff_getElem]
    intro i j hi hj hij
    simp only [List.length_map] at hi hj
    simp only [List.getElem_map]
    have hs := hz.sorted
    unfold Sorted at hs
    rw [List.pairwise_iff_getElem] at hs
    have hlt := hs i j hi hj hij
    by_cases h6 : z.rrs[i].ty = 6 ∧ z.rrs[j].ty = 6
    · exact (two_tops hz.one hi hj (by omega) h6.1 h6.2).elim
    · unfold cmpR at *
      simp only [bump1_name, bump1_ty]
      by_cases c1 : cmpN z.rrs[i].name z.rrs[j].name = 0
      · rw [if_pos c1] at hlt ⊢
        by_cases c2 : cmpI z.rrs[i].ty z.rrs[j].ty = 0
        · have e2 := cmpI_zero.1 c2
          rw [if_pos c2] at hlt ⊢
          have n1 : z.rrs[i].ty ≠ 6 := fun e => h6 ⟨e, by rw [← e2]; exact e⟩
          have n2 : z.rrs[j].ty ≠ 6 := fun e => h6 ⟨by rw [e2]; exact e, e⟩
          rw [show bump1 z.rrs[i] = z.rrs[i] by unfold bump1; rw [if_neg n1], show bump1 z.rrs[j] = z.rrs[j] by unfold bump1; rw [if_neg n2]]
          exact hlt
        · rw [if_neg c2] at hlt ⊢; exact hlt
      · rw [if_neg c1] at hlt ⊢; exact hlt
  · rw [e] at hr
    obtain ⟨x, hx, rfl⟩ := List.mem_map.1 hr
    rw [bump1_name, eo]; exact hz.under x hx
  · rw [e] at hr
    obtain ⟨x, hx, rfl⟩ := List.mem_map.1 hr
    rw [bump1_name, bump1_ty, eo]; exact hz.top x hx
  · rw [e] at hr ⊢
    obtain ⟨x, hx, rfl⟩ := List.mem_map.1 hr
    rw [bump1_name, bump1_ty]
    intro h5
    have := hz.alone x hx h5
    unfold setOf at *
    rw [map_filter_ty (fun r => decide (r.name = x.name) && ((255 : Int) == 255 || r.ty == 255)) (fun r => by rw [bump1_name, bump1_ty]), List.length_map]
    exact this
  · have := hz.one
    unfold zTops at *
    rw [e, map_filter_ty (fun r => r.ty == 6) (fun r => by rw [bump1_ty]), List.length_map]
    exact this
theorem serial_bump {z : Zone} (h : zoneOk z = true) : serialN (bumpN z) = (serialN z + 1) % 4294967296 := by
  have hb := zone_bump h
  have e : (bumpZ z).rrs = z.rrs.map bump1 := (bump_all h).symm
  have ht := topIx_lt h
  have h0 : (topIx z.rrs).toNat < z.rrs.length := by omega
  have h6 := topIx_ty h h0
  obtain ⟨s1, s2, s3⟩ := rdata_soa' (zone_rrs h _ (List.getElem_mem h0)) h6
  have ei : topIx (bumpZ z).rrs = topIx z.rrs := by
    rw [e]
    unfold topIx idx
    rw [List.findIdx?_map]
    have : ((fun r : Rr => r.ty == 6) ∘ bump1) = fun r : Rr => r.ty == 6 := by funext r; simp [bump1_ty]
    rw [this]
  unfold bumpN
  rw [if_pos h]
  unfold serialN
  rw [if_pos hb, if_pos h, ei, e]
  have g1 : (z.rrs.map bump1).getD (topIx z.rrs).toNat emptyR = bumpR z.rrs[(topIx z.rrs).toNat] := by
    rw [List.getD_eq_getElem?_getD, List.getElem?_map, List.getElem?_eq_getElem h0]
    simp [bump1, h6]
  have g2 : z.rrs.getD (topIx z.rrs).toNat emptyR = z.rrs[(topIx z.rrs).toNat] := by rw [List.getD_eq_getElem?_getD, List.getElem?_eq_getElem h0]; rfl
  rw [g1, g2]
  generalize z.rrs[(topIx z.rrs).toNat] = r at *
  unfold bumpR
  rw [List.getD_eq_getElem?_getD, List.getElem?_set]
  simp [show 0 < r.nums.length by omega]
theorem in_split (l : List Rr) (n : List (List UInt8)) (t : Int) : (setOf l n t).length = (l.filter (goneR n t)).length + (setOf (l.filter fun r => !goneR n t r) n t).length := by
  have h := filter_split (fun r : Rr => !(r.ty == 6)) (setOf l n t)
  have e1 : (setOf l n t).filter (fun r => !(r.ty == 6)) = l.filter (goneR n t) := by
    unfold setOf
    rw [List.filter_filter]
    refine List.filter_congr fun r _ => ?_
    unfold goneR
    cases r.ty == 6 <;> simp
  have e2 : (setOf l n t).filter (fun x => !!(x.ty == 6)) = setOf (l.filter fun r => !goneR n t r) n t := by
    unfold setOf
    rw [List.filter_filter, List.filter_filter]
    refine List.filter_congr fun r _ => ?_
    unfold goneR
    cases decide (r.name = n) <;> cases (t == 255 || r.ty == t) <;> cases r.ty == 6 <;> rfl
  rw [e1] at h
  rw [e2] at h
  omega
/-- What is left of a set that is taken out is the top. -/
theorem dropSet_facts {z : Zone} {n : List (List UInt8)} {t : Int} (hz : zoneOk z = true) (hn : nameOk n = true) (ha : askedT t = true) :
    zoneOk (dropSetZ z n t) = true ∧ ((dropSetZ z n t).rrs.length : Int) + dropSetK z n t = z.rrs.length ∧ (∀ r ∈ setN (dropSetZ z n t) n t, r.ty = 6) ∧ ((setN z n t).length : Int) = dropSetK z n t + (setN (dropSetZ z n t) n t).length := by
  have hc : (zoneOk z && nameOk n && askedT t) = true := by simp [hz, hn, ha]
  have e1 : dropSetZ z n t = keptR z (fun r => !goneR n t r) := by unfold dropSetZ; rw [if_pos hc]
  have e2 : dropSetK z n t = ((z.rrs.filter (goneR n t)).length : Int) := by unfold dropSetK; rw [if_pos hc]
  have hk : zoneOk (keptR z (fun r => !goneR n t r)) = true := zone_kept hz fun r _ h6 => by unfold goneR; simp [h6]
  have hs := filter_split (goneR n t) z.rrs
  rw [e1, e2]
  have e3 : setN (keptR z (fun r => !goneR n t r)) n t = setOf (z.rrs.filter fun r => !goneR n t r) n t := by unfold setN; rw [if_pos (by simp [hk, hn])]; rfl
  have e4 : setN z n t = setOf z.rrs n t := by unfold setN; rw [if_pos (by simp [hz, hn])]
  have hi := in_split z.rrs n t
  rw [e3, e4]
  refine ⟨hk, ?_, fun r hr => ?_, by omega⟩
  · show ((z.rrs.filter fun r => !goneR n t r).length : Int) + _ = _
    omega
  · unfold setOf at hr
    obtain ⟨h1, h2⟩ := List.mem_filter.1 hr
    have h3 := (List.mem_filter.1 h1).2
    unfold goneR at h3
    simp only [Bool.and_eq_true] at h2
    rw [h2.1, h2.2] at h3
    simpa using h3
end Hearth
namespace Hearth
theorem serialN_in (z : Zone) : 0 ≤ serialN z ∧ serialN z < 4294967296 := by
  unfold serialN
  split
  · rename_i h
    have ht := topIx_lt h
    have h0 : (topIx z.rrs).toNat < z.rrs.length := by omega
    have g2 : z.rrs.getD (topIx z.rrs).toNat emptyR = z.rrs[(topIx z.rrs).toNat] := by rw [List.getD_eq_getElem?_getD, List.getElem?_eq_getElem h0]; rfl
    rw [g2]
    exact (rdata_soa' (zone_rrs h _ (List.getElem_mem h0)) (topIx_ty h h0)).2
  · omega
end Hearth
namespace Hearth
theorem idx_none {α : Type} {g : α → Bool} {l : List α} (h : ∀ x ∈ l, g x = false) : idx g l = -1 := by
  unfold idx
  rw [List.findIdx?_eq_none_iff.2 h]
theorem idx_first {α : Type} {g : α → Bool} {l : List α} {i : Nat} (hi : i < l.length) (h : ∀ x ∈ l.take i, g x = false) (hg : g l[i] = true) : idx g l = i := by
  unfold idx
  rw [List.findIdx?_eq_some_iff_getElem.2 ⟨hi, hg, fun j hj => ?_⟩]
  have : l[j] ∈ l.take i := by
    rw [List.mem_iff_getElem]
    exact ⟨j, by simp; omega, by simp⟩
  simp [h _ this]
theorem idx_mem {α : Type} {g : α → Bool} {l : List α} {x : α} (hx : x ∈ l) (hg : g x = true) : 0 ≤ idx g l := by
  have := idx_ge g l
  rw [List.any_eq_true.2 ⟨x, hx, hg⟩] at this
  simpa using this
def same1 (a b : List Rr) (i : Nat) : Bool := if h : i < a.length ∧ i < b.length then sameR (a[i]'h.1) (b[i]'h.2) && ((a[i]'h.1).ttl == (b[i]'h.2).ttl) else true
def sameRs (a b : List Rr) : Bool := decide (a.length = b.length) && (List.range a.length).all (same1 a b)
theorem same1_eq {a b : List Rr} {i : Nat} (h : i < a.length) (h' : i < b.length) : same1 a b i = (sameR a[i] b[i] && (a[i].ttl == b[i].ttl)) := by
  unfold same1; rw [dif_pos ⟨h, h'⟩]
theorem sameRs_no {a b : List Rr} {i : Nat} (h : i < a.length) (hf : same1 a b i = false) : sameRs a b = false := by
  unfold sameRs
  have : (List.range a.length).all (same1 a b) = false := by
    rw [List.all_eq_false]; exact ⟨i, List.mem_range.2 h, by simp [hf]⟩
  rw [this]; simp
theorem sameRs_yes {a b : List Rr} (hl : a.length = b.length) (h : ∀ i < a.length, same1 a b i = true) : sameRs a b = true := by
  unfold sameRs
  simp only [Bool.and_eq_true, decide_eq_true_eq, List.all_eq_true, List.mem_range]
  exact ⟨hl, h⟩
theorem sameRs_refl {a : List Rr} (h : ∀ r ∈ a, rrOk r = true) : sameRs a a = true :=
  sameRs_yes rfl fun i hi => by rw [same1_eq hi hi, sameR_refl (h _ (List.getElem_mem hi))]; simp
end Hearth

/- From a function's contract to a law's walk. -/
namespace Hearth
open Go Go.RowKit

/-- What an argument of a plain type is made of. -/
inductive AS where
  | one (sh : Sh)
  | agg (l : List Sh)

def shDA (n : Nat) : AS → DA → Prop
  | .one sh, .one x => shOk n sh x
  | .agg l, .agg xs => xs.length = l.length ∧ ∀ (k : Nat) (sh : Sh) (x : DV), l[k]? = some sh → xs[k]? = some x → shOk n sh x
  | _, _ => False

def asOf (P : Program) (n : Nat) (t : TypeId) : Option AS :=
  match P.underlying t with
  | some (.struct _) => match cellsSh P n t with
    | some l => if l.length ≤ 64 then some (.agg l) else none
    | none => none
  | some (.array _ _) => none
  | _ => match cellsSh P n t with
    | some [sh] => some (.one sh)
    | _ => none

section
variable {H : Type} {enc : TypeId × Value → H} {P : Program} {w : World}

theorem cells_one {base : Nat} {t : TypeId} {v : Value} (h : Cell.okWide P w .any base t v) : v.cells.toList = [v] := by
  cases v <;> first | rfl | (exfalso; revert h; simp [Cell.okWide, Cell.ok]; try (split <;> simp_all))

theorem arg_da {n : Nat} {sp : AS} {t : TypeId} {v : Value} {d : DataW H} {ps : List MemPlace} {base : Nat} (ha : asOf P n t = some sp) (ho : Value.okWide P w .any base t v) (h : DataW.Trod enc P w 0 (fun _ => true) true t v d ps) :
    ∃ da, DAr w (All w) da v ∧ shDA n sp da := by
  obtain ⟨fuel, h⟩ := h
  unfold asOf at ha
  unfold Value.okWide at ho
  split at ha
  · rename_i fs ht
    simp only [ht] at ho
    obtain ⟨cs, rfl, hcs, _⟩ := ho
    split at ha
    · rename_i l hl
      split at ha
      · rename_i h64
        simp at ha; subst ha
        obtain ⟨g1, g2⟩ := trod_sh hl h
        have g1' : cs.size = l.length := by simpa [Value.cells] using g1
        have ch : ∀ k : Nat, ∃ y : DV, ∀ (u : Value) (sh : Sh), cs[k]? = some u → l[k]? = some sh → Pers w (All w) y u ∧ shOk n sh y := by
          intro k
          by_cases hk : k < l.length
          · obtain ⟨y, a1, a2⟩ := g2 k (cs[k]'(by omega)) l[k] (by simp [Value.cells, g1', hk]) (List.getElem?_eq_getElem hk)
            refine ⟨y, fun u sh b1 b2 => ?_⟩
            rw [Array.getElem?_eq_getElem (by omega)] at b1
            rw [List.getElem?_eq_getElem hk] at b2
            simp at b1 b2
            subst b1; subst b2
            exact ⟨a1, a2⟩
          · exact ⟨.sl 0 [], fun u sh _ b2 => by rw [List.getElem?_eq_none (by omega)] at b2; cases b2⟩
        have ⟨f, hf⟩ := Classical.axiomOfChoice ch
        refine ⟨.agg ((List.range l.length).map f), ⟨cs, rfl, ⟨by simp [g1'], by simpa using h64⟩, fun k x u hx hu => ?_⟩, by simp, fun k sh x hs hx => ?_⟩
        · simp only [List.getElem?_map, Option.map_eq_some_iff] at hx
          obtain ⟨k', hk, rfl⟩ := hx
          have hlt : k < l.length := by have := (List.getElem?_eq_some_iff.1 hk).1; simpa using this
          rw [List.getElem?_range hlt] at hk
          simp at hk; subst hk
          exact (hf k u _ hu (List.getElem?_eq_getElem hlt)).1
        · simp only [List.getElem?_map, Option.map_eq_some_iff] at hx
          obtain ⟨k', hk, rfl⟩ := hx
          have hlt : k < l.length := by have := (List.getElem?_eq_some_iff.1 hk).1; simpa using this
          rw [List.getElem?_range hlt] at hk
          simp at hk; subst hk
          exact (hf k _ sh (Array.getElem?_eq_getElem (by omega)) hs).2
      · simp at ha
    · simp at ha
  · simp at ha
  · rename_i hns hna
    split at ha
    · rename_i sh hl
      simp at ha; subst ha
      have ho' : Cell.okWide P w .any base t v := by
        revert ho
        split
        · rename_i fs h'; exact absurd h' (hns fs)
        · rename_i a b h'; exact absurd h' (hna a b)
        · exact id
      rw [cells_one ho'] at h
      obtain ⟨_, g2⟩ := trod_sh hl h
      obtain ⟨y, g3, g4⟩ := g2 0 v sh rfl rfl
      exact ⟨.one y, g3, g4⟩
    · simp at ha

/-- A call of a law that is told of its arguments' data. -/
theorem law_calls {f : Nat} {das : List DA} {vs : Array Value} (hd : DAs w (All w) das vs) (hok : FnOK P f (das.map DA.ga) (fun ra _ => ra = [.one (.d (.sc (.bool true)))])) :
    Calls P f vs w fun e w' => e = .returned (.bool true) ∧ Below w.heap.size w w' := by
  refine (hok.2 w (All w) (fun _ _ => False) vs (by simpa using hd.1) (fun t g v hg hv => ?_) (by simp) (by simp) (fun _ h => h) (by simp)).mono fun e w' h => ?_
  · simp only [List.getElem?_map, Option.map_eq_some_iff] at hg
    obtain ⟨da, hda, rfl⟩ := hg
    have := hd.2 t da v hda hv
    cases da with
    | one x => exact this
    | agg xs =>
      obtain ⟨us, h1, h2, h3⟩ := this
      refine ⟨us, h1, by simpa using h2.1, by simpa using h2.2, fun k p u hp hu => ?_⟩
      simp only [List.getElem?_map, Option.map_eq_some_iff] at hp
      obtain ⟨x, hx, rfl⟩ := hp
      exact h3 k x u hx hu
  · obtain ⟨v, ra, os, G, rfl, rfl, he, _, hr, _⟩ := h
    obtain ⟨us, h1, h2, h3⟩ := hr
    have hs : us.size = 1 := h2
    rw [dif_pos hs] at h1
    have hp : Pers w' _ (.sc (.bool true)) us[0] := h3 0 _ us[0] rfl (Array.getElem?_eq_getElem (by omega))
    have key : ∀ {S : Nat → Prop} {x : DV} {u : Value}, Pers w' S x u → x = .sc (.bool true) → u = .bool true := by
      intro S x u hp hx
      cases hp with
      | sc _ _ => cases hx; rfl
      | emp _ _ _ => cases hx
      | sl _ _ _ _ _ _ _ _ _ _ _ _ => cases hx
    exact ⟨by rw [h1, key hp rfl], he.os, he.tape, he.output, he.size, fun k hk => he.same k hk (by simp)⟩
end

/-! What shapes tell. -/
theorem shOk_int {n : Nat} {k : IntKind} {x : DV} (h : shOk n (.int k) x) : ∃ m, x = .sc (.int k m) ∧ (Lit.int k m).wf = true := by
  cases n with
  | zero => simp [shOk] at h
  | succ n => cases x with
    | sc v => cases v <;> simp [shOk] at h; obtain ⟨rfl, h⟩ := h; exact ⟨_, rfl, h⟩
    | sl _ _ => simp [shOk] at h
theorem shOk_u8 {n : Nat} {x : DV} (h : shOk n (.int .u8) x) : ∃ b : UInt8, x = .sc (.int .u8 b.toNat) := by
  obtain ⟨m, rfl, hw⟩ := shOk_int h
  simp [Lit.wf, IntKind.min, IntKind.max, IntKind.signed, IntKind.bits] at hw
  refine ⟨UInt8.ofNat m.toNat, ?_⟩
  have : ((UInt8.ofNat m.toNat).toNat : Int) = m := by
    rw [UInt8.toNat_ofNat']
    omega
  rw [this]
theorem shOk_bool {n : Nat} {x : DV} (h : shOk n .bool x) : ∃ b, x = .sc (.bool b) := by
  cases n with
  | zero => simp [shOk] at h
  | succ n => cases x with
    | sc v => cases v <;> simp [shOk] at h; exact ⟨_, rfl⟩
    | sl _ _ => simp [shOk] at h
theorem shOk_str {n : Nat} {x : DV} (h : shOk n .str x) : ∃ b, x = .sc (.string b) ∧ b.size ≤ maxLen := by
  cases n with
  | zero => simp [shOk] at h
  | succ n => cases x with
    | sc v => cases v <;> simp [shOk] at h; exact ⟨_, rfl, h⟩
    | sl _ _ => simp [shOk] at h
/-- A list whose rows are each of something. -/
theorem shOk_rows {n : Nat} {l : List Sh} {x : DV} {α : Type} {f : α → List DV} {q : α → Prop} (h : shOk n (.sl l) x)
    (hr : ∀ (m : Nat) (row : List DV), row.length = l.length → (∀ (j : Nat) (sh : Sh) (y : DV), l[j]? = some sh → row[j]? = some y → shOk m sh y) → ∃ a, row = f a ∧ q a) :
    ∃ as : List α, x = .sl l.length (as.map f) ∧ (as.length : Int) ≤ 9223372036854775807 ∧ ∀ a ∈ as, q a := by
  cases n with
  | zero => simp [shOk] at h
  | succ n => cases x with
    | sc v => cases v <;> simp [shOk] at h
    | sl sz rows =>
      obtain ⟨rfl, _, h3, h4⟩ := h
      have : ∀ rows : List (List DV), (∀ row ∈ rows, ∃ a, row = f a ∧ q a) → ∃ as : List α, rows = as.map f ∧ ∀ a ∈ as, q a := by
        intro rows
        induction rows with
        | nil => exact fun _ => ⟨[], rfl, by simp⟩
        | cons r rs ih =>
          intro h
          obtain ⟨a, h1, h2⟩ := h r (by simp)
          obtain ⟨as, h3, h4⟩ := ih (fun r hr => h r (by simp [hr]))
          exact ⟨a :: as, by rw [h1, h3]; rfl, fun b hb => (List.mem_cons.1 hb).elim (fun e => e ▸ h2) (h4 b)⟩
      obtain ⟨as, rfl, h5⟩ := this rows (fun row hrow => hr n row (h4 row hrow).1 (h4 row hrow).2)
      refine ⟨as, rfl, ?_, h5⟩
      simp only [List.length_map, maxLen] at h3
      omega
theorem row_one {α : Type} {P : Sh → DV → Prop} {sh : Sh} {row : List DV} {f : α → DV} {q : α → Prop} (hl : row.length = 1) (h : ∀ (j : Nat) (s : Sh) (y : DV), [sh][j]? = some s → row[j]? = some y → P s y) (hf : ∀ y, P sh y → ∃ a, y = f a ∧ q a) : ∃ a, row = [f a] ∧ q a := by
  match row, hl with
  | [y], _ =>
    obtain ⟨a, rfl, ha⟩ := hf y (h 0 sh y rfl rfl)
    exact ⟨a, rfl, ha⟩
theorem shOk_bytes {n : Nat} {x : DV} (h : shOk n (.sl [.int .u8]) x) : ∃ b : List UInt8, x = encB b ∧ (b.length : Int) ≤ 9223372036854775807 := by
  obtain ⟨as, h1, h2, _⟩ := shOk_rows (α := UInt8) (f := fun b => [.sc (.int .u8 b.toNat)]) (q := fun _ => True) h (fun m row hl hc => row_one (P := shOk m) hl hc fun y hy => by obtain ⟨b, rfl⟩ := shOk_u8 hy; exact ⟨b, rfl, trivial⟩)
  exact ⟨as, h1, h2⟩
theorem shOk_BB {n : Nat} {x : DV} (h : shOk n (.sl [.sl [.int .u8]]) x) : ∃ a : List (List UInt8), x = encBB a ∧ (a.length : Int) ≤ 9223372036854775807 ∧ ∀ b ∈ a, (b.length : Int) ≤ 9223372036854775807 :=
  shOk_rows (α := List UInt8) (f := fun b => [encB b]) (q := fun b => (b.length : Int) ≤ 9223372036854775807) h (fun m row hl hc => row_one (P := shOk m) hl hc fun y hy => shOk_bytes hy)
end Hearth

/- Arguments of laws as records. -/
namespace Hearth
open Go
abbrev shB : Sh := .sl [.int .u8]
abbrev shBB : Sh := .sl [.sl [.int .u8]]
abbrev shI : Sh := .sl [.int .i64]
abbrev i64 : Sh := .int .i64
abbrev shRow : List Sh := [shBB, i64, i64, i64, shBB, shB, shI]
abbrev shTask : List Sh := [i64, i64, shBB, i64, shBB, shBB, shI, shI, i64, i64, i64, i64, .sl shRow]

theorem shOk_i64 {n : Nat} {x : DV} (h : shOk n i64 x) : ∃ m : Int, x = .sc (.int .i64 m) := by
  obtain ⟨m, h, _⟩ := shOk_int h; exact ⟨m, h⟩
theorem shOk_I {n : Nat} {x : DV} (h : shOk n shI x) : ∃ l : List Int, x = encI l ∧ (l.length : Int) ≤ 9223372036854775807 := by
  obtain ⟨l, h1, h2, _⟩ := shOk_rows (α := Int) (f := fun n => [.sc (.int .i64 n)]) (q := fun _ => True) h (fun m _ hl hc => row_one (P := shOk m) hl hc fun _ hy => by obtain ⟨b, rfl⟩ := shOk_i64 hy; exact ⟨b, rfl, trivial⟩)
  exact ⟨l, h1, h2⟩
theorem shOk_B {n : Nat} {x : DV} (h : shOk n shBB x) : ∃ a : List (List UInt8), x = encBB a ∧ BigBB a := by
  obtain ⟨a, h1, h2, h3⟩ := shOk_BB h; exact ⟨a, h1, h2, h3⟩
theorem row_Rr {n : Nat} {row : List DV} (hl : row.length = 7) (h : ∀ (j : Nat) (s : Sh) (y : DV), shRow[j]? = some s → row[j]? = some y → shOk n s y) : ∃ r : Rr, row = r.cells ∧ BigR r := by
  match row, hl with
  | [c0, c1, c2, c3, c4, c5, c6], _ =>
    obtain ⟨a0, rfl, b0⟩ := shOk_B (h 0 _ c0 rfl rfl)
    obtain ⟨a1, rfl⟩ := shOk_i64 (h 1 _ c1 rfl rfl)
    obtain ⟨a2, rfl⟩ := shOk_i64 (h 2 _ c2 rfl rfl)
    obtain ⟨a3, rfl⟩ := shOk_i64 (h 3 _ c3 rfl rfl)
    obtain ⟨a4, rfl, b4⟩ := shOk_B (h 4 _ c4 rfl rfl)
    obtain ⟨a5, rfl, b5⟩ := shOk_bytes (h 5 _ c5 rfl rfl)
    obtain ⟨a6, rfl, b6⟩ := shOk_I (h 6 _ c6 rfl rfl)
    exact ⟨⟨a0, a1, a2, a3, a4, a5, a6⟩, rfl, b0, b4, b5, b6⟩
theorem shOk_Rs {n : Nat} {x : DV} (h : shOk n (.sl shRow) x) : ∃ l : List Rr, x = encR l ∧ BigRs l := by
  obtain ⟨l, h1, h2, h3⟩ := shOk_rows (α := Rr) (f := Rr.cells) (q := BigR) h (fun m row hl hc => row_Rr hl hc)
  exact ⟨l, h1, h2, h3⟩
theorem row_Task {n : Nat} {row : List DV} (hl : row.length = 13) (h : ∀ (j : Nat) (s : Sh) (y : DV), shTask[j]? = some s → row[j]? = some y → shOk n s y) : ∃ t : Task, row = t.cells ∧ BigT t := by
  match row, hl with
  | [c0, c1, c2, c3, c4, c5, c6, c7, c8, c9, c10, c11, c12], _ =>
    obtain ⟨a0, rfl⟩ := shOk_i64 (h 0 _ c0 rfl rfl)
    obtain ⟨a1, rfl⟩ := shOk_i64 (h 1 _ c1 rfl rfl)
    obtain ⟨a2, rfl, b2⟩ := shOk_B (h 2 _ c2 rfl rfl)
    obtain ⟨a3, rfl⟩ := shOk_i64 (h 3 _ c3 rfl rfl)
    obtain ⟨a4, rfl, b4⟩ := shOk_B (h 4 _ c4 rfl rfl)
    obtain ⟨a5, rfl, b5⟩ := shOk_B (h 5 _ c5 rfl rfl)
    obtain ⟨a6, rfl, b6⟩ := shOk_I (h 6 _ c6 rfl rfl)
    obtain ⟨a7, rfl, b7⟩ := shOk_I (h 7 _ c7 rfl rfl)
    obtain ⟨a8, rfl⟩ := shOk_i64 (h 8 _ c8 rfl rfl)
    obtain ⟨a9, rfl⟩ := shOk_i64 (h 9 _ c9 rfl rfl)
    obtain ⟨a10, rfl⟩ := shOk_i64 (h 10 _ c10 rfl rfl)
    obtain ⟨a11, rfl⟩ := shOk_i64 (h 11 _ c11 rfl rfl)
    obtain ⟨a12, rfl, b12⟩ := shOk_Rs (h 12 _ c12 rfl rfl)
    exact ⟨⟨a0, a1, a2, a3, a4, a5, a6, a7, a8, a9, a10, a11, a12⟩, rfl, b2, b4, b5, b6, b7, b12⟩
abbrev shZone : List Sh := [shBB, .sl shRow]
theorem row_Zone {n : Nat} {row : List DV} (hl : row.length = 2) (h : ∀ (j : Nat) (s : Sh) (y : DV), shZone[j]? = some s → row[j]? = some y → shOk n s y) : ∃ z : Zone, row = z.cells ∧ BigZ z := by
  match row, hl with
  | [c0, c1], _ =>
    obtain ⟨a0, rfl, b0⟩ := shOk_B (h 0 _ c0 rfl rfl)
    obtain ⟨a1, rfl, b1⟩ := shOk_Rs (h 1 _ c1 rfl rfl)
    exact ⟨⟨a0, a1⟩, rfl, b0, b1⟩
abbrev shQuestion : List Sh := [shBB, i64]
theorem shOk_bl {n : Nat} {x : DV} (h : shOk n .bool x) : ∃ b : Bool, x = .sc (.bool b) := shOk_bool h
theorem shOk_Bo {n : Nat} {x : DV} (h : shOk n (.sl [.bool]) x) : ∃ l : List Bool, x = encBo l ∧ (l.length : Int) ≤ 9223372036854775807 := by
  obtain ⟨l, h1, h2, _⟩ := shOk_rows (α := Bool) (f := fun n => [.sc (.bool n)]) (q := fun _ => True) h (fun m _ hl hc => row_one (P := shOk m) hl hc fun _ hy => by obtain ⟨b, rfl⟩ := shOk_bl hy; exact ⟨b, rfl, trivial⟩)
  exact ⟨l, h1, h2⟩
abbrev shEvent : List Sh := [i64, shB, i64, shB, shB, i64, .sl [.bool]]
theorem row_Event {n : Nat} {row : List DV} (hl : row.length = 7) (h : ∀ (j : Nat) (s : Sh) (y : DV), shEvent[j]? = some s → row[j]? = some y → shOk n s y) : ∃ e : Evt, row = e.cells ∧ BigE e := by
  match row, hl with
  | [c0, c1, c2, c3, c4, c5, c6], _ =>
    obtain ⟨a0, rfl⟩ := shOk_i64 (h 0 _ c0 rfl rfl)
    obtain ⟨a1, rfl, b1⟩ := shOk_bytes (h 1 _ c1 rfl rfl)
    obtain ⟨a2, rfl⟩ := shOk_i64 (h 2 _ c2 rfl rfl)
    obtain ⟨a3, rfl, b3⟩ := shOk_bytes (h 3 _ c3 rfl rfl)
    obtain ⟨a4, rfl, b4⟩ := shOk_bytes (h 4 _ c4 rfl rfl)
    obtain ⟨a5, rfl⟩ := shOk_i64 (h 5 _ c5 rfl rfl)
    obtain ⟨a6, rfl, b6⟩ := shOk_Bo (h 6 _ c6 rfl rfl)
    exact ⟨⟨a0, a1, a2, a3, a4, a5, a6⟩, rfl, b1, b3, b4, b6⟩
end Hearth
