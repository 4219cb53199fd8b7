/- An abstract machine for Go programs, and its soundness: the framework of this proof; no condition. -/
import Derived.WideShapes
import Derived.Test.YtmdmlncdjdphdaaDoorHearth3
set_option linter.unusedVariables false
set_option linter.unusedSimpArgs false
/- Zones: a record that is added; zones as draws make them. -/
namespace Hearth
open Go
def ttlR (r x : Rr) : Rr := if x.name = r.name ∧ x.ty = r.ty then { x with ttl := r.ttl } else x
def addSt (r : Rr) (st : List Rr × Bool) (x : Rr) : List Rr × Bool :=
  let o := if st.2 = false ∧ cmpR r x ≤ 0 then st.1 ++ [r] else st.1
  (if cmpR r x = 0 then o else o ++ [ttlR r x], st.2 || decide (cmpR r x ≤ 0))
def addAt (l : List Rr) (r : Rr) : List Rr × Bool := l.foldl (addSt r) ([], false)
def addL (l : List Rr) (r : Rr) : List Rr := if (addAt l r).2 then (addAt l r).1 else (addAt l r).1 ++ [r]
theorem ttlR_ok {r x : Rr} (hr : rrOk r = true) (hx : rrOk x = true) : rrOk (ttlR r x) = true := by
  unfold ttlR
  split
  · unfold rrOk at *
    simp only [Bool.and_eq_true] at *
    exact ⟨⟨hx.1.1, hr.1.2⟩, hx.2⟩
  · exact hx
theorem addAt_mem (l : List Rr) (r : Rr) (q : Rr → Prop) (h1 : q r) (h2 : ∀ x ∈ l, q (ttlR r x)) : ∀ x ∈ (addAt l r).1, q x := by
  have key : ∀ (l : List Rr) (st : List Rr × Bool), (∀ x ∈ l, q (ttlR r x)) → (∀ x ∈ st.1, q x) → ∀ x ∈ (l.foldl (addSt r) st).1, q x := by
    intro l
    induction l with
    | nil => intro st _ h; exact h
    | cons y l ih =>
      intro st hl hs
      refine ih _ (fun x hx => hl x (List.mem_cons_of_mem _ hx)) ?_
      have ho : ∀ x ∈ (if st.2 = false ∧ cmpR r y ≤ 0 then st.1 ++ [r] else st.1), q x := by
        intro x hx
        split at hx
        · rcases List.mem_append.1 hx with hx | hx
          · exact hs x hx
          · simp only [List.mem_singleton] at hx; rw [hx]; exact h1
        · exact hs x hx
      intro x hx
      unfold addSt at hx
      simp only at hx
      split at hx
      · exact ho x hx
      · rcases List.mem_append.1 hx with hx | hx
        · exact ho x hx
        · simp only [List.mem_singleton] at hx; rw [hx]; exact hl y (List.mem_cons_self ..)
  exact key l ([], false) h2 (by simp)
theorem addL_mem (l : List Rr) (r : Rr) (q : Rr → Prop) (h1 : q r) (h2 : ∀ x ∈ l, q (ttlR r x)) : ∀ x ∈ addL l r, q x := by
  have := addAt_mem l r q h1 h2
  unfold addL
  split
  · exact this
  · intro x hx
    rcases List.mem_append.1 hx with hx | hx
    · exact this x hx
    · simp only [List.mem_singleton] at hx; rw [hx]; exact h1
theorem rrOk_small {r : Rr} (h : rrOk r = true) : SmallR r := by
  unfold rrOk at h
  simp only [Bool.and_eq_true, decide_eq_true_eq] at h
  obtain ⟨⟨⟨h1, h2⟩, h3⟩, h4⟩ := h
  unfold dataOk at h4
  simp only [Bool.and_eq_true] at h4
  obtain ⟨⟨⟨k1, k2⟩, k3⟩, k4⟩ := h4
  refine ⟨.ok h1, ?_, ?_, ?_⟩
  · by_cases e : hasTo r.ty = true
    · rw [if_pos e] at k3; exact .ok k3
    · rw [if_neg e] at k3
      simp at k3
      rw [k3]; exact .nil
  · by_cases e : hasText r.ty = true
    · rw [if_pos e] at k4; simp at k4; omega
    · rw [if_neg e] at k4
      simp at k4
      rw [k4]; simp
  · by_cases e : r.ty = 6
    · rw [if_pos (by simpa using e)] at k1
      unfold numsOk at k1
      split at k1
      · omega
      · cases k1
    · rw [if_neg (by simpa using e)] at k1
      simp at k1
      rw [k1]; simp
theorem zoneOk_small {z : Zone} (h : zoneOk z = true) : SmallZ z := by
  have hm := zone_rrs h
  unfold zoneOk at h
  simp only [Bool.and_eq_true, decide_eq_true_eq] at h
  exact ⟨.ok h.1.1.1.1, ⟨by omega, fun r hr => rrOk_small (hm r hr)⟩⟩
theorem zoneOk_pos {z : Zone} (h : zoneOk z = true) : 0 < z.rrs.length ∧ z.rrs.length ≤ 60 := by
  have h2 := topIx_lt h
  unfold zoneOk at h
  simp only [Bool.and_eq_true, decide_eq_true_eq] at h
  omega
end Hearth
namespace Hearth
end Hearth
namespace Hearth
end Hearth
namespace Hearth
end Hearth
namespace Hearth
open Go
section
variable {α : Type} {P : Program} {k : List It} {Q : Ex → St → Prop} {s : St} {d : Option Nat} {q : Bool} {r : T} {oi : Nat} {tags : List Nat} {f : α → List DV} {l : List α} {sz : Nat}
end
end Hearth

/- Records are in order: what orders are, and zones as lists in order. -/
namespace Hearth
open Go
structure Cmp {α : Type} (c : α → α → Int) : Prop where
  neg : ∀ a b, c b a = - c a b
  tr : ∀ a b d, c a b ≤ 0 → c b d ≤ 0 → c a d ≤ 0
namespace Cmp
variable {α β : Type} {c c1 c2 : α → α → Int}
theorem lt_le (h : Cmp c) {a b d : α} (h1 : c a b < 0) (h2 : c b d ≤ 0) : c a d < 0 := by
  have h3 := h.tr a b d (by omega) h2
  rcases Int.lt_or_le (c a d) 0 with h4 | h4
  · exact h4
  · have e := h.neg a d
    have := h.tr b d a h2 (by omega)
    have e2 := h.neg a b
    omega
theorem le_lt (h : Cmp c) {a b d : α} (h1 : c a b ≤ 0) (h2 : c b d < 0) : c a d < 0 := by
  have h3 := h.tr a b d h1 (by omega)
  rcases Int.lt_or_le (c a d) 0 with h4 | h4
  · exact h4
  · have e := h.neg a d
    have := h.tr d a b (by omega) h1
    have e2 := h.neg b d
    omega
theorem lt (h : Cmp c) {a b d : α} (h1 : c a b < 0) (h2 : c b d < 0) : c a d < 0 := h.lt_le h1 (by omega)
theorem zero_both (h : Cmp c) {a b d : α} (h1 : c a b ≤ 0) (h2 : c b d ≤ 0) (h3 : c a d = 0) : c a b = 0 ∧ c b d = 0 := by
  rcases Int.lt_or_le (c a b) 0 with h4 | h4
  · have := h.lt_le h4 h2; omega
  · rcases Int.lt_or_le (c b d) 0 with h5 | h5
    · have := h.le_lt h1 h5; omega
    · exact ⟨by omega, by omega⟩
theorem lex (h1 : Cmp c1) (h2 : Cmp c2) : Cmp (fun a b => if c1 a b = 0 then c2 a b else c1 a b) := by
  refine ⟨fun a b => ?_, fun a b d g1 g2 => ?_⟩
  · have e1 := h1.neg a b
    have e2 := h2.neg a b
    show (if c1 b a = 0 then c2 b a else c1 b a) = - (if c1 a b = 0 then c2 a b else c1 a b)
    by_cases h : c1 a b = 0
    · rw [if_pos h, if_pos (by omega)]; exact e2
    · rw [if_neg h, if_neg (by omega)]; exact e1
  · have g1 : (if c1 a b = 0 then c2 a b else c1 a b) ≤ 0 := g1
    have g2 : (if c1 b d = 0 then c2 b d else c1 b d) ≤ 0 := g2
    show (if c1 a d = 0 then c2 a d else c1 a d) ≤ 0
    have k1 : c1 a b ≤ 0 := by
      by_cases h : c1 a b = 0
      · omega
      · rw [if_neg h] at g1; exact g1
    have k2 : c1 b d ≤ 0 := by
      by_cases h : c1 b d = 0
      · omega
      · rw [if_neg h] at g2; exact g2
    by_cases h : c1 a d = 0
    · obtain ⟨z1, z2⟩ := h1.zero_both k1 k2 h
      rw [if_pos z1] at g1
      rw [if_pos z2] at g2
      rw [if_pos h]
      exact h2.tr a b d g1 g2
    · rw [if_neg h]; exact h1.tr a b d k1 k2
theorem comap (h : Cmp c) (f : β → α) : Cmp (fun a b => c (f a) (f b)) := ⟨fun a b => h.neg _ _, fun a b d => h.tr _ _ _⟩
end Cmp
theorem bl_trans : ∀ {a b c : List UInt8}, Op.bytesLess a b = true → Op.bytesLess b c = true → Op.bytesLess a c = true
  | a, [], _, h, _ => by cases a <;> simp [Op.bytesLess] at h
  | _, b :: _, [], _, h => by simp [Op.bytesLess] at h
  | [], b :: x, c :: y, _, _ => rfl
  | a :: z, b :: x, c :: y, h1, h2 => by
    simp only [Op.bytesLess, Bool.or_eq_true, decide_eq_true_eq, Bool.and_eq_true, beq_iff_eq] at *
    rcases h1 with h1 | ⟨rfl, h1⟩ <;> rcases h2 with h2 | ⟨rfl, h2⟩
    · exact .inl (UInt8.lt_trans h1 h2)
    · exact .inl h1
    · exact .inl h2
    · exact .inr ⟨rfl, bl_trans h1 h2⟩
theorem bl_total : ∀ (a b : List UInt8), Op.bytesLess a b = true ∨ a = b ∨ Op.bytesLess b a = true
  | [], [] => .inr (.inl rfl)
  | [], _ :: _ => .inl rfl
  | _ :: _, [] => .inr (.inr rfl)
  | a :: x, b :: y => by
    simp only [Op.bytesLess, Bool.or_eq_true, decide_eq_true_eq, Bool.and_eq_true, beq_iff_eq]
    rcases (show a < b ∨ a = b ∨ b < a by
      rcases Nat.lt_trichotomy a.toNat b.toNat with h | h | h
      · exact .inl (UInt8.lt_iff_toNat_lt.2 h)
      · exact .inr (.inl (UInt8.toNat_inj.1 h))
      · exact .inr (.inr (UInt8.lt_iff_toNat_lt.2 h))) with h | h | h
    · exact .inl (.inl h)
    · subst h
      rcases bl_total x y with h | h | h
      · exact .inl (.inr ⟨rfl, h⟩)
      · subst h; exact .inr (.inl rfl)
      · exact .inr (.inr (.inr ⟨rfl, h⟩))
    · exact .inr (.inr (.inl h))
theorem bl_asymm {a b : List UInt8} (h : Op.bytesLess a b = true) : Op.bytesLess b a = false := by
  cases e : Op.bytesLess b a with
  | false => rfl
  | true => have := bl_trans h e; rw [bytesLess_irrefl] at this; cases this
theorem cmpB_lt {a b : List UInt8} (h : Op.bytesLess a b = true) : cmpB a b = -1 := by unfold cmpB; rw [if_pos h]
theorem cmpB_gt {a b : List UInt8} (h : Op.bytesLess b a = true) : cmpB a b = 1 := by
  have h1 := bl_asymm h
  have hne : a ≠ b := by rintro rfl; rw [bytesLess_irrefl] at h; cases h
  unfold cmpB; rw [if_neg (by simp [h1]), if_pos (by simp [h1, hne])]
theorem cmpB_self (a : List UInt8) : cmpB a a = 0 := (cmpB_iff a a).2 rfl
theorem cmpB_cmp : Cmp cmpB := by
  refine ⟨fun a b => ?_, fun a b d h1 h2 => ?_⟩
  · rcases bl_total a b with h | h | h
    · rw [cmpB_lt h, cmpB_gt h]; rfl
    · subst h; rw [cmpB_self]; rfl
    · rw [cmpB_lt h, cmpB_gt h]
  · rcases bl_total a b with h | h | h
    · rcases bl_total b d with g | g | g
      · rw [cmpB_lt (bl_trans h g)]; decide
      · subst g; rw [cmpB_lt h]; decide
      · rw [cmpB_gt g] at h2; omega
    · subst h; exact h2
    · rw [cmpB_gt h] at h1; omega
theorem cmpL_neg : ∀ (a b : List (List UInt8)), cmpL b a = - cmpL a b
  | [], [] => rfl
  | [], _ :: _ => rfl
  | _ :: _, [] => rfl
  | x :: a, y :: b => by
    have h := cmpB_cmp.neg x y
    simp only [cmpL]
    by_cases e : cmpB x y = 0
    · rw [if_pos e, if_pos (by omega)]; exact cmpL_neg a b
    · rw [if_neg e, if_neg (by omega)]; exact h
theorem cmpL_tr : ∀ (a b d : List (List UInt8)), cmpL a b ≤ 0 → cmpL b d ≤ 0 → cmpL a d ≤ 0
  | [], _, [], _, _ => by simp [cmpL]
  | [], _, _ :: _, _, _ => by simp [cmpL]
  | _ :: _, [], _, h, _ => by simp [cmpL] at h
  | _ :: _, _ :: _, [], _, h => by simp [cmpL] at h
  | x :: a, y :: b, z :: d, h1, h2 => by
    simp only [cmpL] at *
    have k1 : cmpB x y ≤ 0 := by
      by_cases h : cmpB x y = 0
      · omega
      · rw [if_neg h] at h1; exact h1
    have k2 : cmpB y z ≤ 0 := by
      by_cases h : cmpB y z = 0
      · omega
      · rw [if_neg h] at h2; exact h2
    by_cases h : cmpB x z = 0
    · obtain ⟨z1, z2⟩ := cmpB_cmp.zero_both k1 k2 h
      rw [if_pos z1] at h1
      rw [if_pos z2] at h2
      rw [if_pos h]
      exact cmpL_tr a b d h1 h2
    · rw [if_neg h]; exact cmpB_cmp.tr _ _ _ k1 k2
theorem cmpN_cmp : Cmp cmpN := (Cmp.mk cmpL_neg cmpL_tr).comap List.reverse
theorem cmpI_cmp : Cmp cmpI := by
  refine ⟨fun a b => ?_, fun a b d h1 h2 => ?_⟩
  · unfold cmpI; split <;> split <;> omega
  · unfold cmpI at *
    split at h1 <;> split at h2 <;> (try split at h1) <;> (try split at h2) <;> split <;> (try split) <;> omega
theorem cmpR_cmp : Cmp cmpR := (cmpN_cmp.comap Rr.name).lex ((cmpI_cmp.comap Rr.ty).lex (cmpB_cmp.comap rdata))
def Sorted (l : List Rr) : Prop := l.Pairwise fun a b => cmpR a b < 0
theorem sorted_of_prev {l : List Rr} (h : ∀ i < l.length, prevB l i = true) : Sorted l := by
  have step : ∀ i (hi : i + 1 < l.length), cmpR l[i] l[i + 1] < 0 := by
    intro i hi
    have := h (i + 1) hi
    unfold prevB at this
    rw [dif_pos ⟨by omega, hi⟩] at this
    simpa using this
  have far : ∀ (k i : Nat) (hk : i + k + 1 < l.length), cmpR l[i] l[i + k + 1] < 0 := by
    intro k
    induction k with
    | zero => intro i hk; exact step i hk
    | succ k ih =>
      intro i hk
      exact cmpR_cmp.lt (ih i (by omega)) (step (i + k + 1) (by omega))
  unfold Sorted
  rw [List.pairwise_iff_getElem]
  intro i j hi hj hij
  have := far (j - i - 1) i (by omega)
  have e : i + (j - i - 1) + 1 = j := by omega
  simp only [e] at this
  exact this
theorem prev_of_sorted {l : List Rr} (h : Sorted l) (i : Nat) : prevB l i = true := by
  unfold prevB
  split
  · rename_i hi
    unfold Sorted at h
    rw [List.pairwise_iff_getElem] at h
    exact decide_eq_true (h (i - 1) i (by omega) hi.2 (by omega))
  · rfl
structure ZoneP (z : Zone) : Prop where
  o : nameOk z.origin = true
  len : z.rrs.length ≤ 60
  ok : ∀ r ∈ z.rrs, rrOk r = true
  sorted : Sorted z.rrs
  under : ∀ r ∈ z.rrs, underN r.name z.origin = true
  top : ∀ r ∈ z.rrs, r.ty = 6 → r.name = z.origin
  alone : ∀ r ∈ z.rrs, r.ty = 5 → (setOf z.rrs r.name 255).length ≤ 1
  one : zTops z.rrs = 1
theorem zoneP {z : Zone} : zoneOk z = true ↔ ZoneP z := by
  constructor
  · intro h
    have hm := zone_rrs h
    unfold zoneOk at h
    simp only [Bool.and_eq_true, decide_eq_true_eq, List.all_eq_true, List.mem_range] at h
    obtain ⟨⟨⟨⟨h1, h2⟩, h3⟩, h4⟩, h5⟩ := h
    have at_ : ∀ i (hi : i < z.rrs.length), underN z.rrs[i].name z.origin = true ∧ prevB z.rrs i = true ∧ aloneR z.rrs i = true ∧ (z.rrs[i].ty = 6 → z.rrs[i].name = z.origin) := by
      intro i hi
      have := h4 i hi
      rw [zAt_eq hi] at this
      simp only [Bool.and_eq_true, Bool.or_eq_true, Bool.not_eq_true', beq_eq_false_iff_ne, decide_eq_true_eq] at this
      exact ⟨this.1.1.1, this.1.1.2, this.1.2, fun e => this.2.resolve_left fun h => h e⟩
    refine ⟨h1, h2, hm, sorted_of_prev fun i hi => (at_ i hi).2.1, fun r hr => ?_, fun r hr => ?_, fun r hr h5 => ?_, h5⟩
    · obtain ⟨i, hi, rfl⟩ := List.mem_iff_getElem.1 hr
      exact (at_ i hi).1
    · obtain ⟨i, hi, rfl⟩ := List.mem_iff_getElem.1 hr
      exact (at_ i hi).2.2.2
    · obtain ⟨i, hi, rfl⟩ := List.mem_iff_getElem.1 hr
      have := (at_ i hi).2.2.1
      rw [aloneR_eq hi] at this
      simpa [h5] using this
  · intro h
    unfold zoneOk
    simp only [Bool.and_eq_true, decide_eq_true_eq, List.all_eq_true, List.mem_range]
    refine ⟨⟨⟨⟨h.o, h.len⟩, h.ok⟩, fun i hi => ?_⟩, h.one⟩
    rw [zAt_eq hi]
    have hr := List.getElem_mem hi
    simp only [Bool.and_eq_true, Bool.or_eq_true, Bool.not_eq_true', beq_eq_false_iff_ne, decide_eq_true_eq]
    refine ⟨⟨⟨h.under _ hr, prev_of_sorted h.sorted i⟩, ?_⟩, ?_⟩
    · rw [aloneR_eq hi]
      by_cases e : z.rrs[i].ty = 5
      · simp [e, h.alone _ hr e]
      · simp [e]
    · by_cases e : z.rrs[i].ty = 6
      · exact .inr (h.top _ hr e)
      · exact .inl e
end Hearth
namespace Hearth
end Hearth
namespace Hearth
end Hearth
namespace Hearth
end Hearth
namespace Hearth
theorem nameOk_label {n : List (List UInt8)} (h : nameOk n = true) : ∀ b ∈ n, labelOk b = true := by
  unfold nameOk at h
  simp only [Bool.and_eq_true] at h
  exact List.all_eq_true.1 h.2
theorem okLetter_low {c : UInt8} (h : okLetter c = true) : lowC c = c ∧ c ≠ 46 := by
  have h := (okLetter_iff c).1 h
  unfold lowC
  constructor
  · rw [if_neg]
    rintro ⟨h1, h2⟩
    have h1 := UInt8.le_iff_toNat_le.1 h1
    have h2 := UInt8.le_iff_toNat_le.1 h2
    simp at h1 h2
    omega
  · rintro rfl
    simp at h
theorem label_low {l : List UInt8} (h : labelOk l = true) : lowerB l = l ∧ 46 ∉ l := by
  unfold labelOk at h
  simp only [Bool.and_eq_true] at h
  have h := List.all_eq_true.1 h.2
  refine ⟨?_, fun hm => (okLetter_low (h _ hm)).2 rfl⟩
  unfold lowerB
  conv => rhs; rw [← List.map_id l]
  exact List.map_congr_left fun c hc => (okLetter_low (h c hc)).1
end Hearth

/- Messages: questions, records that are wanted, what they are written as. -/
namespace Hearth
open Go
structure Want where
  rr : Rr
  cls : Int
  bare : Bool
  deriving DecidableEq
def Want.cells (w : Want) : List DV := [encBB w.rr.name, .sc (.int .i64 w.rr.ty), .sc (.int .i64 w.rr.ttl), .sc (.int .i64 w.rr.addr), encBB w.rr.to, encB w.rr.text, encI w.rr.nums, .sc (.int .i64 w.cls), .sc (.bool w.bare)]
abbrev encW (l : List Want) : DV := encL 9 Want.cells l
structure SmallW (w : Want) : Prop where
  r : SmallR w.rr
structure SmallWs (l : List Want) : Prop where
  len : l.length ≤ 4194304
  mem : ∀ w ∈ l, SmallW w
structure Msg where
  id : Int
  reply : Bool
  op : Int
  auth : Bool
  code : Int
  qs : List Qn
  an : List Rr
  au : List Rr
  mo : List Rr
  pr : List Want
  up : List Want
  deriving DecidableEq
def Msg.cells (m : Msg) : List DV := [.sc (.int .i64 m.id), .sc (.bool m.reply), .sc (.int .i64 m.op), .sc (.bool m.auth), .sc (.int .i64 m.code), encQ m.qs, encR m.an, encR m.au, encR m.mo, encW m.pr, encW m.up]
structure SmallM (m : Msg) : Prop where
  q : SmallQs m.qs
  a : SmallRs m.an
  b : SmallRs m.au
  c : SmallRs m.mo
  p : SmallWs m.pr
  u : SmallWs m.up
def wantOk (w : Want) : Bool :=
  if w.cls ≠ 1 ∧ w.cls ≠ 254 ∧ w.cls ≠ 255 then false
  else if w.bare then !(w.cls == 1) && nameOk w.rr.name && askedT w.rr.ty && w.rr.ttl == 0 && w.rr.addr == 0 && w.rr.to.isEmpty && w.rr.text.isEmpty && w.rr.nums.isEmpty
  else !(w.cls == 255) && rrOk w.rr && (w.cls == 1 || w.rr.ttl == 0)
def wantsOk (l : List Want) : Bool := decide ((l.length : Int) ≤ 12) && l.all wantOk
def msgMay (m : Msg) : Bool :=
  (decide (0 ≤ m.id) && decide (m.id ≤ 65535)) && (decide (0 ≤ m.code) && decide (m.code ≤ 10)) && (decide (m.qs.length = 1) && nameOk (m.qs.getD 0 ⟨[], 0⟩).name && askedT (m.qs.getD 0 ⟨[], 0⟩).ty) &&
  (rrsOk m.an && rrsOk m.au && rrsOk m.mo && wantsOk m.pr && wantsOk m.up) &&
  (if m.op = 0 then decide (m.pr.length + m.up.length = 0) else if m.op = 5 then (m.qs.getD 0 ⟨[], 0⟩).ty == 6 && decide (m.an.length + m.au.length + m.mo.length = 0) else false)
theorem wireN_small {n : List (List UInt8)} (h : nameOk n = true) : (wireN n).length ≤ 97 := by
  have h1 := nameOk_len h
  have h2 := nameOk_flat h
  rw [wireN_len]; omega
def rrB (r : Rr) (c : Int) : List UInt8 := wireN r.name ++ w2 r.ty ++ w2 c ++ w4 r.ttl ++ w2 ((rdata r).length : Int) ++ rdata r
def wantB (w : Want) : List UInt8 := if w.bare then wireN w.rr.name ++ w2 w.rr.ty ++ w2 w.cls ++ w4 0 ++ w2 0 else rrB w.rr w.cls
theorem w2_len (n : Int) : (w2 n).length = 2 := rfl
theorem tyOk_rng {t : Int} (h : tyOk t = true) : 0 ≤ t ∧ t ≤ 49 := by
  unfold tyOk at h; simp at h; omega
theorem askedT_rng {t : Int} (h : askedT t = true) : 0 ≤ t ∧ t ≤ 255 := by
  unfold askedT at h
  simp only [Bool.or_eq_true] at h
  rcases h with h | h
  · have := tyOk_rng h; omega
  · simp at h; omega
def headB (m : Msg) (f a b : Int) : List UInt8 := w2 m.id ++ w2 f ++ w2 1 ++ w2 a ++ w2 b ++ w2 m.mo.length ++ wireN (m.qs.getD 0 ⟨[], 0⟩).name ++ w2 (m.qs.getD 0 ⟨[], 0⟩).ty ++ w2 1
def msgB (m : Msg) (f a b : Int) : List UInt8 := headB m f a b ++ m.pr.flatMap wantB ++ m.up.flatMap wantB ++ (m.an ++ m.au ++ m.mo).flatMap fun r => rrB r 1
def msgLen (m : Msg) : Nat := (msgB m 0 0 0).length
def msgOk (m : Msg) : Bool := msgMay m && decide (msgLen m ≤ 512)
structure MayP (m : Msg) : Prop where
  id : 0 ≤ m.id ∧ m.id ≤ 65535
  cd : 0 ≤ m.code ∧ m.code ≤ 10
  q1 : m.qs.length = 1
  qn : nameOk (m.qs.getD 0 ⟨[], 0⟩).name = true
  qt : 0 ≤ (m.qs.getD 0 ⟨[], 0⟩).ty ∧ (m.qs.getD 0 ⟨[], 0⟩).ty ≤ 255
  an : m.an.length ≤ 12 ∧ ∀ r ∈ m.an, rrOk r = true
  au : m.au.length ≤ 12 ∧ ∀ r ∈ m.au, rrOk r = true
  mo : m.mo.length ≤ 12 ∧ ∀ r ∈ m.mo, rrOk r = true
  pr : m.pr.length ≤ 12 ∧ ∀ w ∈ m.pr, wantOk w = true
  up : m.up.length ≤ 12 ∧ ∀ w ∈ m.up, wantOk w = true
  op : m.op = 0 ∧ m.pr = [] ∧ m.up = [] ∨ m.op = 5 ∧ m.an = [] ∧ m.au = [] ∧ m.mo = []
theorem rrsOk_p {l : List Rr} (h : rrsOk l = true) : l.length ≤ 12 ∧ ∀ r ∈ l, rrOk r = true := by
  unfold rrsOk at h
  simp only [Bool.and_eq_true, decide_eq_true_eq] at h
  exact ⟨by omega, List.all_eq_true.1 h.2⟩
theorem wantsOk_p {l : List Want} (h : wantsOk l = true) : l.length ≤ 12 ∧ ∀ r ∈ l, wantOk r = true := by
  unfold wantsOk at h
  simp only [Bool.and_eq_true, decide_eq_true_eq] at h
  exact ⟨by omega, List.all_eq_true.1 h.2⟩
theorem MayP.of {m : Msg} (h : msgMay m = true) : MayP m := by
  unfold msgMay at h
  simp only [Bool.and_eq_true, decide_eq_true_eq] at h
  obtain ⟨⟨⟨⟨h1, h2⟩, ⟨h3, h4⟩, h5⟩, ⟨⟨⟨h6, h7⟩, h8⟩, h9⟩, h10⟩, h11⟩ := h
  refine ⟨h1, h2, h3, h4, askedT_rng h5, rrsOk_p h6, rrsOk_p h7, rrsOk_p h8, wantsOk_p h9, wantsOk_p h10, ?_⟩
  split at h11
  · rename_i e
    simp only [decide_eq_true_eq] at h11
    exact .inl ⟨e, List.eq_nil_of_length_eq_zero (by omega), List.eq_nil_of_length_eq_zero (by omega)⟩
  · split at h11
    · rename_i e
      simp only [Bool.and_eq_true, decide_eq_true_eq] at h11
      exact .inr ⟨e, List.eq_nil_of_length_eq_zero (by omega), List.eq_nil_of_length_eq_zero (by omega), List.eq_nil_of_length_eq_zero (by omega)⟩
    · cases h11
section
variable {P : Program} {k : List It} {Q : Ex → St → Prop} {s : St} {r : T} {d : Option Nat} {q : Bool} {oi : Nat} {tags : List Nat}
end
end Hearth

/- Answers of zones. -/
namespace Hearth
open Go
def zTopR (z : Zone) : Rr := z.rrs.getD (topIx z.rrs).toNat emptyR
structure AnsP (z : Zone) (m : Msg) (k : Nat) (o : Msg) : Prop where
  id : o.id = m.id
  rp : o.reply = true
  op : o.op = m.op
  qs : o.qs = [m.qs.getD 0 ⟨[], 0⟩]
  an : o.an.length ≤ 60 * k ∧ ∀ r ∈ o.an, r ∈ z.rrs
  au : o.au = []
  mo : o.mo = []
  pr : o.pr = []
  up : o.up = []
  cd : o.code = 0
structure AnsE (z : Zone) (m : Msg) (o : Msg) : Prop where
  id : o.id = m.id
  rp : o.reply = true
  op : o.op = m.op
  qs : o.qs = [m.qs.getD 0 ⟨[], 0⟩]
  an : o.an.length ≤ 360 ∧ ∀ r ∈ o.an, r ∈ z.rrs
  au : o.au.length ≤ 60 ∧ ∀ r ∈ o.au, r ∈ z.rrs
  mo : o.mo.length ≤ 3600 ∧ ∀ r ∈ o.mo, r ∈ z.rrs
  pr : o.pr = []
  up : o.up = []
theorem zone_look {z : Zone} {n : List (List UInt8)} {t : Int} (hz : zoneOk z = true) : (lookupN z n t).1.length ≤ 60 ∧ ∀ r ∈ (lookupN z n t).1, r ∈ z.rrs := by
  obtain ⟨f, hf⟩ := lookup_filter z n t
  have := zoneOk_pos hz
  rw [hf]
  exact ⟨Nat.le_trans (List.length_filter_le _ _) this.2, fun r hr => (List.mem_filter.1 hr).1⟩
theorem zTopR_mem {z : Zone} (hz : zoneOk z = true) : zTopR z ∈ z.rrs := by
  have h := topIx_lt hz
  unfold zTopR
  rw [List.getD_eq_getElem?_getD, List.getElem?_eq_getElem (by omega)]
  exact List.getElem_mem _
theorem AnsP.e {z : Zone} {m o : Msg} {k : Nat} (h : AnsP z m k o) (hk : k ≤ 6) : AnsE z m o :=
  ⟨h.id, h.rp, h.op, h.qs, ⟨by have := h.an.1; omega, h.an.2⟩, by rw [h.au]; exact ⟨by simp, nofun⟩, by rw [h.mo]; exact ⟨by simp, nofun⟩, h.pr, h.up⟩
theorem AnsP.more {z : Zone} {m o : Msg} {k : Nat} {n : List (List UInt8)} {t : Int} (hz : zoneOk z = true) (h : AnsP z m k o) : AnsP z m (k + 1) { o with auth := true, an := o.an ++ (lookupN z n t).1 } := by
  have hl := zone_look (n := n) (t := t) hz
  exact ⟨h.id, h.rp, h.op, h.qs, ⟨by show (o.an ++ _).length ≤ _; rw [List.length_append]; have := h.an.1; omega, fun r hr => (List.mem_append.1 hr).elim (h.an.2 r) (hl.2 r)⟩, h.au, h.mo, h.pr, h.up, h.cd⟩
theorem AnsE.small {z : Zone} {m o : Msg} (hz : zoneOk z = true) (hm : msgOk m = true) (h : AnsE z m o) : SmallM o := by
  have hr := zone_rrs hz
  have hq : SmallBB (m.qs.getD 0 ⟨[], 0⟩).name := .ok (MayP.of (by unfold msgOk at hm; simp only [Bool.and_eq_true] at hm; exact hm.1)).qn
  refine ⟨?_, ⟨by have := h.an.1; omega, fun r hx => rrOk_small (hr r (h.an.2 r hx))⟩, ⟨by have := h.au.1; omega, fun r hx => rrOk_small (hr r (h.au.2 r hx))⟩, ⟨by have := h.mo.1; omega, fun r hx => rrOk_small (hr r (h.mo.2 r hx))⟩, ?_, ?_⟩
  · rw [h.qs]; exact ⟨by simp, fun q hx => by simp only [List.mem_singleton] at hx; rw [hx]; exact hq⟩
  · rw [h.pr]; exact ⟨by simp, nofun⟩
  · rw [h.up]; exact ⟨by simp, nofun⟩
end Hearth
namespace Hearth
theorem SmallRs.app {l : List Rr} {r : Rr} {k : Nat} (h : l.length ≤ k ∧ ∀ x ∈ l, SmallR x) (hr : SmallR r) : (l ++ [r]).length ≤ k + 1 ∧ ∀ x ∈ l ++ [r], SmallR x := by
  refine ⟨by rw [List.length_append]; simp only [List.length_cons, List.length_nil]; omega, fun b hb => ?_⟩
  rcases List.mem_append.1 hb with hb | hb
  · exact h.2 b hb
  · simp only [List.mem_singleton] at hb; subst hb; exact hr
theorem SmallWs.app {l : List Want} {r : Want} {k : Nat} (h : l.length ≤ k ∧ ∀ x ∈ l, SmallW x) (hr : SmallW r) : (l ++ [r]).length ≤ k + 1 ∧ ∀ x ∈ l ++ [r], SmallW x := by
  refine ⟨by rw [List.length_append]; simp only [List.length_cons, List.length_nil]; omega, fun b hb => ?_⟩
  rcases List.mem_append.1 hb with hb | hb
  · exact h.2 b hb
  · simp only [List.mem_singleton] at hb; subst hb; exact hr
structure DrawnM (m : Msg) : Prop where
  q : ∃ n t, m.qs = [⟨n, t⟩] ∧ nameOk n = true
  a : m.an.length ≤ 12 ∧ ∀ r ∈ m.an, SmallR r
  b : m.au.length ≤ 12 ∧ ∀ r ∈ m.au, SmallR r
  c : m.mo.length ≤ 12 ∧ ∀ r ∈ m.mo, SmallR r
  p : m.pr.length ≤ 12 ∧ ∀ r ∈ m.pr, SmallW r
  u : m.up.length ≤ 12 ∧ ∀ r ∈ m.up, SmallW r
theorem DrawnM.small {m : Msg} (h : DrawnM m) : SmallM m := by
  obtain ⟨⟨n, t, hq, hn⟩, ha, hb, hc, hp, hu⟩ := h
  refine ⟨by rw [hq]; exact ⟨by simp, fun q hx => by simp only [List.mem_singleton] at hx; rw [hx]; exact .ok hn⟩, ⟨by omega, ha.2⟩, ⟨by omega, hb.2⟩, ⟨by omega, hc.2⟩, ⟨by omega, hp.2⟩, ⟨by omega, hu.2⟩⟩
end Hearth
namespace Hearth
open Go
section
variable {P : Program} {k : List It} {Q : Ex → St → Prop}
end
end Hearth

/- Updates, as draws make them. -/
namespace Hearth
open Go
theorem addAt_spec (r : Rr) : ∀ (l : List Rr) (st : List Rr × Bool), (st.2 = true → r ∈ st.1) →
    ((l.foldl (addSt r) st).2 = true → r ∈ (l.foldl (addSt r) st).1) ∧
    (∀ x, x ∈ (l.foldl (addSt r) st).1 ↔ x ∈ st.1 ∨ ((l.foldl (addSt r) st).2 = true ∧ x = r) ∨ ∃ y ∈ l, cmpR r y ≠ 0 ∧ x = ttlR r y) ∧
    ((l.foldl (addSt r) st).1.length = st.1.length + (if (l.foldl (addSt r) st).2 = true ∧ st.2 = false then 1 else 0) + (l.filter fun y => cmpR r y != 0).length) ∧
    (st.2 = true → (l.foldl (addSt r) st).2 = true)
  | [], st, h => by
    refine ⟨h, fun x => ?_, ?_, fun h => h⟩
    · simp only [List.foldl_nil, List.not_mem_nil, false_and, exists_false, or_false]
      exact ⟨fun hx => .inl hx, fun hx => hx.elim id fun ⟨e, hx⟩ => hx ▸ h e⟩
    · have : ¬ (st.2 = true ∧ st.2 = false) := by rintro ⟨a, b⟩; rw [a] at b; cases b
      simp [this]
  | y :: l, st, h => by
    simp only [List.foldl_cons]
    have h' : (addSt r st y).2 = true → r ∈ (addSt r st y).1 := by
      unfold addSt
      simp only [Bool.or_eq_true, decide_eq_true_eq]
      intro hp
      have hm : r ∈ (if st.2 = false ∧ cmpR r y ≤ 0 then st.1 ++ [r] else st.1) := by
        by_cases hs : st.2 = true
        · rw [if_neg (by simp [hs])]; exact h hs
        · rw [if_pos ⟨by simpa using hs, hp.resolve_left hs⟩]; simp
      split
      · exact hm
      · exact List.mem_append_left _ hm
    obtain ⟨i1, i2, i3, i4⟩ := addAt_spec r l (addSt r st y) h'
    have e2 : (addSt r st y).2 = (st.2 || decide (cmpR r y ≤ 0)) := rfl
    have e1 : (addSt r st y).1 = if cmpR r y = 0 then (if st.2 = false ∧ cmpR r y ≤ 0 then st.1 ++ [r] else st.1) else (if st.2 = false ∧ cmpR r y ≤ 0 then st.1 ++ [r] else st.1) ++ [ttlR r y] := rfl
    refine ⟨i1, fun x => ?_, ?_, fun hs => i4 (by rw [e2, hs]; rfl)⟩
    · rw [i2, e1]
      constructor
      · rintro (hx | hx | ⟨z, hz, hx⟩)
        · have hb : x ∈ (if st.2 = false ∧ cmpR r y ≤ 0 then st.1 ++ [r] else st.1) → x ∈ st.1 ∨ ((l.foldl (addSt r) (addSt r st y)).2 = true ∧ x = r) := by
            intro hx
            split at hx
            · rename_i hc
              rcases List.mem_append.1 hx with hx | hx
              · exact .inl hx
              · simp only [List.mem_singleton] at hx
                exact .inr ⟨i4 (by rw [e2]; simp [hc.2]), hx⟩
            · exact .inl hx
          split at hx
          · exact (hb hx).imp id .inl
          · rename_i hne
            rcases List.mem_append.1 hx with hx | hx
            · exact (hb hx).imp id .inl
            · simp only [List.mem_singleton] at hx
              exact .inr (.inr ⟨y, List.mem_cons_self .., hne, hx⟩)
        · exact .inr (.inl hx)
        · exact .inr (.inr ⟨z, List.mem_cons_of_mem _ hz, hx⟩)
      · have hb : x ∈ st.1 → x ∈ (if st.2 = false ∧ cmpR r y ≤ 0 then st.1 ++ [r] else st.1) := by
          intro hx; split
          · exact List.mem_append_left _ hx
          · exact hx
        rintro (hx | hx | ⟨z, hz, hne, hx⟩)
        · left
          split
          · exact hb hx
          · exact List.mem_append_left _ (hb hx)
        · exact .inr (.inl hx)
        · rcases List.mem_cons.1 hz with rfl | hz
          · left
            rw [if_neg hne]
            exact List.mem_append_right _ (by simp [hx])
          · exact .inr (.inr ⟨z, hz, hne, hx⟩)
    · rw [i3, e1, e2, List.filter_cons]
      have hle : cmpR r y = 0 → cmpR r y ≤ 0 := fun h => by omega
      have h4 : (addSt r st y).2 = true → (l.foldl (addSt r) (addSt r st y)).2 = true := i4
      rw [e2] at h4
      cases hs : st.2 with
      | true =>
        rw [hs] at h4
        simp only [Bool.true_or, true_implies] at h4
        by_cases hc : cmpR r y = 0
        · simp [hc]
        · simp [hc, h4]; omega
      | false =>
        rw [hs] at h4
        by_cases hl : cmpR r y ≤ 0
        · have h5 : (l.foldl (addSt r) (addSt r st y)).2 = true := h4 (by simp [hl])
          by_cases hc : cmpR r y = 0
          · simp [hc, h5]
          · simp [hc, hl, h5]; omega
        · have hc : ¬ cmpR r y = 0 := fun h => hl (hle h)
          simp [hc, hl]
          split <;> omega
theorem mem_addL {l : List Rr} {r x : Rr} : x ∈ addL l r ↔ x = r ∨ ∃ y ∈ l, cmpR r y ≠ 0 ∧ x = ttlR r y := by
  obtain ⟨h1, h2, _, _⟩ := addAt_spec r l ([], false) nofun
  change ((addAt l r).2 = true → r ∈ (addAt l r).1) at h1
  change ∀ x, x ∈ (addAt l r).1 ↔ x ∈ [] ∨ ((addAt l r).2 = true ∧ x = r) ∨ ∃ y ∈ l, cmpR r y ≠ 0 ∧ x = ttlR r y at h2
  unfold addL
  split
  · rename_i hp
    rw [h2]; simp [hp]
  · rename_i hp
    rw [List.mem_append, h2]
    simp [hp]
    constructor
    · rintro (h | h)
      · exact .inr h
      · exact .inl h
    · rintro (h | h)
      · exact .inr h
      · exact .inl h
theorem addL_length (l : List Rr) (r : Rr) : (addL l r).length = 1 + (l.filter fun y => cmpR r y != 0).length := by
  obtain ⟨_, _, h3, _⟩ := addAt_spec r l ([], false) nofun
  change (addAt l r).1.length = 0 + (if (addAt l r).2 = true ∧ false = false then 1 else 0) + (l.filter fun y => cmpR r y != 0).length at h3
  unfold addL
  split
  · rename_i hp
    rw [h3]; simp [hp]
  · rename_i hp
    rw [List.length_append, h3]; simp [hp]; omega
theorem addL_le (l : List Rr) (r : Rr) : (addL l r).length ≤ l.length + 1 := by
  rw [addL_length]
  have := List.length_filter_le (fun y => cmpR r y != 0) l
  omega
structure ZI (k : Nat) (z : Zone) : Prop where
  o : nameOk z.origin = true
  len : z.rrs.length ≤ k
  ok : ∀ r ∈ z.rrs, rrOk r = true
  soa : ∃ r ∈ z.rrs, r.ty = 6 ∧ r.name = z.origin
theorem ZI.small {k : Nat} {z : Zone} (h : ZI k z) (hk : k ≤ 1000000) : SmallZ z := ⟨.ok h.o, ⟨by have := h.len; omega, fun r hr => rrOk_small (h.ok r hr)⟩⟩
theorem ZI.mono {k j : Nat} {z : Zone} (h : ZI k z) (hk : k ≤ j) : ZI j z := ⟨h.o, Nat.le_trans h.len hk, h.ok, h.soa⟩
theorem ZI.of {z : Zone} (h : zoneOk z = true) : ZI 60 z := by
  have hp := zoneP.1 h
  have ht := topIx_lt h
  refine ⟨hp.o, hp.len, hp.ok, ?_⟩
  have hm := zTopR_mem h
  have h6 : (zTopR z).ty = 6 := by
    have hx := ht
    unfold topIx idx at hx
    unfold zTopR topIx idx
    cases hf : z.rrs.findIdx? (fun r => r.ty == 6) with
    | none => rw [hf] at hx; simp at hx
    | some i =>
      rw [List.findIdx?_eq_some_iff_getElem] at hf
      obtain ⟨h1, h2, _⟩ := hf
      simp only [Int.toNat_natCast]
      rw [List.getD_eq_getElem?_getD, List.getElem?_eq_getElem h1]
      simpa using h2
  exact ⟨_, hm, h6, hp.top _ hm h6⟩
theorem ttlR_name (r x : Rr) : (ttlR r x).name = x.name ∧ (ttlR r x).ty = x.ty := by
  unfold ttlR; split <;> exact ⟨rfl, rfl⟩
theorem ZI.add {k : Nat} {z : Zone} {r : Rr} (h : ZI k z) (hr : rrOk r = true) : ZI (k + 1) ⟨z.origin, addL z.rrs r⟩ := by
  refine ⟨h.o, by have := addL_le z.rrs r; have := h.len; show (addL z.rrs r).length ≤ _; omega, addL_mem _ _ _ hr fun x hx => ttlR_ok hr (h.ok x hx), ?_⟩
  obtain ⟨x, hx, h6, hn⟩ := h.soa
  by_cases hc : cmpR r x = 0
  · have := (cmpR_iff r x).1 hc
    exact ⟨r, mem_addL.2 (.inl rfl), by rw [this.2.1, h6], by rw [this.1, hn]⟩
  · exact ⟨ttlR r x, mem_addL.2 (.inr ⟨x, hx, hc, rfl⟩), by rw [(ttlR_name r x).2, h6], by rw [(ttlR_name r x).1, hn]⟩
theorem ZI.filter {k : Nat} {z : Zone} (h : ZI k z) (f : Rr → Bool) (hf : ∀ r, r.ty = 6 → f r = true) : ZI k ⟨z.origin, z.rrs.filter f⟩ := by
  refine ⟨h.o, Nat.le_trans (List.length_filter_le _ _) h.len, fun r hr => h.ok r (List.mem_filter.1 hr).1, ?_⟩
  obtain ⟨x, hx, h6, hn⟩ := h.soa
  exact ⟨x, List.mem_filter.2 ⟨hx, hf x h6⟩, h6, hn⟩
end Hearth

/- Short names for a digest's parts and for rules. -/
namespace Hearth
def T.o (i d : Nat) (x : O) (r : T) : T := .op i [] (some d) none false x r
def X.i (n : Int) : X := .v (.int .i64 n)
def C.g (t : T) (c : C) : C := .seq (.reg false t) c
theorem pr {p : Prop} (h : p := by first | assumption | omega | solve_by_elim [List.getElem_mem] | (simp only [szOut] at *; omega)) : p := h
theorem prl {p : Prop} (h : p := by first | omega | (simp only [List.length_append, List.length_cons, List.length_nil]; omega)) : p := h
theorem leb {m n : Nat} (h : Nat.ble m n = true := by exact rfl) : m ≤ n := Nat.le_of_ble_eq_true h
theorem pry {p : Prop} (h : p := by first | assumption | omega | solve_by_elim [List.getElem_mem] | (simp only [szOut] at *; omega) | exact rfl | exact leb) : p := h
theorem prx {p : Prop} (h : p := by first | assumption | omega | solve_by_elim [List.getElem_mem] | (simp only [List.length_append, w2_len, w4_len]; omega) | (simp only [szOut] at *; omega) | exact rfl | exact leb | exact rrOk_small (by assumption) | exact zoneOk_small (by assumption) | exact SmallBB.ok (by assumption) | exact (SmallBB.ok (by assumption)).len | exact (SmallBB.ok (by assumption)).mem | exact SmallBB.bent (by assumption)) : p := h
theorem om {p : Prop} (h : p := by omega) : p := h
universe u in
theorem Y {α : Sort u} {a : α} : a = a := rfl
abbrev Ka := @kMovC
abbrev Kb := @kSeq
abbrev Kc := @kReg
abbrev Kd := @kDone
abbrev Ke := @kLoadP
abbrev Kf := @kFadP
abbrev Kg := @kGF
abbrev Ki := @kGT
abbrev Kj := @kBin
abbrev Kk := @kPickT
abbrev Kl := @kPickF
abbrev Km := @kCondP
abbrev Kn := @kSkip
abbrev Ko := @kStoreP
abbrev Kp := @kCallD
abbrev Kq := @kLenR
abbrev Kr := @kRet
abbrev Ks := @kRelF
abbrev Kt := @kBlock
abbrev Ku := @kCall1
abbrev Kv := @kBk
abbrev Kw := @kUn
abbrev Kx := @kRelK
abbrev Ky := @kLoadD
abbrev Kz := @kCallE
abbrev Er := @endRetA
section
open Go
variable {P : Program} {k : List It} {Q : Ex → St → Prop} {s : St}
theorem Kbc {t : T} {y : C} (h : kont P (.t t [] :: .c y :: k) Q .normal s) : kont P (.c (.seq (.reg false t) y) :: k) Q .normal s := kSeq (kReg h)
theorem Kdb {tags : List Nat} {x y : C} (h : kont P (.c x :: .c y :: k) Q .normal s) : kont P (.t .done tags :: .c (.seq x y) :: k) Q .normal s := kDone (kSeq h)
end
end Hearth

/- From a function's contract to a law's walk. -/
namespace Hearth
open Go Go.RowKit
inductive AS where
  | one (sh : Sh)
  | agg (l : List Sh)
def shDA (n : Nat) : AS → DA → Prop
  | .one sh, .one x => shOk n sh x
  | .agg l, .agg xs => xs.length = l.length ∧ ∀ (k : Nat) (sh : Sh) (x : DV), l[k]? = some sh → xs[k]? = some x → shOk n sh x
  | _, _ => False
def asOf (P : Program) (n : Nat) (t : TypeId) : Option AS :=
  match P.underlying t with
  | some (.struct _) => match cellsSh P n t with
    | some l => if l.length ≤ 64 then some (.agg l) else none
    | none => none
  | some (.array _ _) => none
  | _ => match cellsSh P n t with
    | some [sh] => some (.one sh)
    | _ => none
section
variable {H : Type} {enc : TypeId × Value → H} {P : Program} {w : World}
theorem cells_one {base : Nat} {t : TypeId} {v : Value} (h : Cell.okWide P w .any base t v) : v.cells.toList = [v] := by
  cases v <;> first | rfl | (exfalso; revert h; simp [Cell.okWide, Cell.ok]; try (split <;> simp_all))
theorem arg_da {n : Nat} {sp : AS} {t : TypeId} {v : Value} {d : DataW H} {ps : List MemPlace} {base : Nat} (ha : asOf P n t = some sp) (ho : Value.okWide P w .any base t v) (h : DataW.Trod enc P w 0 (fun _ => true) true t v d ps) :
    ∃ da, DAr w (All w) da v ∧ shDA n sp da := by
  obtain ⟨fuel, h⟩ := h
  unfold asOf at ha
  unfold Value.okWide at ho
  split at ha
  · rename_i fs ht
    simp only [ht] at ho
    obtain ⟨cs, rfl, hcs, _⟩ := ho
    split at ha
    · rename_i l hl
      split at ha
      · rename_i h64
        simp at ha; subst ha
        obtain ⟨g1, g2⟩ := trod_sh hl h
        have g1' : cs.size = l.length := by simpa [Value.cells] using g1
        have ch : ∀ k : Nat, ∃ y : DV, ∀ (u : Value) (sh : Sh), cs[k]? = some u → l[k]? = some sh → Pers w (All w) y u ∧ shOk n sh y := by
          intro k
          by_cases hk : k < l.length
          · obtain ⟨y, a1, a2⟩ := g2 k (cs[k]'(by omega)) l[k] (by simp [Value.cells, g1', hk]) (List.getElem?_eq_getElem hk)
            refine ⟨y, fun u sh b1 b2 => ?_⟩
            rw [Array.getElem?_eq_getElem (by omega)] at b1
            rw [List.getElem?_eq_getElem hk] at b2
            simp at b1 b2
            subst b1; subst b2
            exact ⟨a1, a2⟩
          · exact ⟨.sl 0 [], fun u sh _ b2 => by rw [List.getElem?_eq_none (by omega)] at b2; cases b2⟩
        have ⟨f, hf⟩ := Classical.axiomOfChoice ch
        refine ⟨.agg ((List.range l.length).map f), ⟨cs, rfl, ⟨by simp [g1'], by simpa using h64⟩, fun k x u hx hu => ?_⟩, by simp, fun k sh x hs hx => ?_⟩
        · simp only [List.getElem?_map, Option.map_eq_some_iff] at hx
          obtain ⟨k', hk, rfl⟩ := hx
          have hlt : k < l.length := by have := (List.getElem?_eq_some_iff.1 hk).1; simpa using this
          rw [List.getElem?_range hlt] at hk
          simp at hk; subst hk
          exact (hf k u _ hu (List.getElem?_eq_getElem hlt)).1
        · simp only [List.getElem?_map, Option.map_eq_some_iff] at hx
          obtain ⟨k', hk, rfl⟩ := hx
          have hlt : k < l.length := by have := (List.getElem?_eq_some_iff.1 hk).1; simpa using this
          rw [List.getElem?_range hlt] at hk
          simp at hk; subst hk
          exact (hf k _ sh (Array.getElem?_eq_getElem (by omega)) hs).2
      · simp at ha
    · simp at ha
  · simp at ha
  · rename_i hns hna
    split at ha
    · rename_i sh hl
      simp at ha; subst ha
      have ho' : Cell.okWide P w .any base t v := by
        revert ho
        split
        · rename_i fs h'; exact absurd h' (hns fs)
        · rename_i a b h'; exact absurd h' (hna a b)
        · exact id
      rw [cells_one ho'] at h
      obtain ⟨_, g2⟩ := trod_sh hl h
      obtain ⟨y, g3, g4⟩ := g2 0 v sh rfl rfl
      exact ⟨.one y, g3, g4⟩
    · simp at ha
theorem law_calls {f : Nat} {das : List DA} {vs : Array Value} (hd : DAs w (All w) das vs) (hok : FnOK P f (das.map DA.ga) (fun ra _ => ra = [.one (.d (.sc (.bool true)))])) :
    Calls P f vs w fun e w' => e = .returned (.bool true) ∧ Below w.heap.size w w' := by
  refine (hok.2 w (All w) (fun _ _ => False) vs (by simpa using hd.1) (fun t g v hg hv => ?_) (by simp) (by simp) (fun _ h => h) (by simp)).mono fun e w' h => ?_
  · simp only [List.getElem?_map, Option.map_eq_some_iff] at hg
    obtain ⟨da, hda, rfl⟩ := hg
    have := hd.2 t da v hda hv
    cases da with
    | one x => exact this
    | agg xs =>
      obtain ⟨us, h1, h2, h3⟩ := this
      refine ⟨us, h1, by simpa using h2.1, by simpa using h2.2, fun k p u hp hu => ?_⟩
      simp only [List.getElem?_map, Option.map_eq_some_iff] at hp
      obtain ⟨x, hx, rfl⟩ := hp
      exact h3 k x u hx hu
  · obtain ⟨v, ra, os, G, rfl, rfl, he, _, hr, _⟩ := h
    obtain ⟨us, h1, h2, h3⟩ := hr
    have hs : us.size = 1 := h2
    rw [dif_pos hs] at h1
    have hp : Pers w' _ (.sc (.bool true)) us[0] := h3 0 _ us[0] rfl (Array.getElem?_eq_getElem (by omega))
    have key : ∀ {S : Nat → Prop} {x : DV} {u : Value}, Pers w' S x u → x = .sc (.bool true) → u = .bool true := by
      intro S x u hp hx
      cases hp with
      | sc _ _ => cases hx; rfl
      | emp _ _ _ => cases hx
      | sl _ _ _ _ _ _ _ _ _ _ _ _ => cases hx
    exact ⟨by rw [h1, key hp rfl], he.os, he.tape, he.output, he.size, fun k hk => he.same k hk (by simp)⟩
end
/-! What shapes tell. -/
theorem shOk_int {n : Nat} {k : IntKind} {x : DV} (h : shOk n (.int k) x) : ∃ m, x = .sc (.int k m) ∧ (Lit.int k m).wf = true := by
  cases n with
  | zero => simp [shOk] at h
  | succ n => cases x with
    | sc v => cases v <;> simp [shOk] at h; obtain ⟨rfl, h⟩ := h; exact ⟨_, rfl, h⟩
    | sl _ _ => simp [shOk] at h
theorem shOk_u8 {n : Nat} {x : DV} (h : shOk n (.int .u8) x) : ∃ b : UInt8, x = .sc (.int .u8 b.toNat) := by
  obtain ⟨m, rfl, hw⟩ := shOk_int h
  simp [Lit.wf, IntKind.min, IntKind.max, IntKind.signed, IntKind.bits] at hw
  refine ⟨UInt8.ofNat m.toNat, ?_⟩
  have : ((UInt8.ofNat m.toNat).toNat : Int) = m := by
    rw [UInt8.toNat_ofNat']
    omega
  rw [this]
theorem shOk_rows {n : Nat} {l : List Sh} {x : DV} {α : Type} {f : α → List DV} {q : α → Prop} (h : shOk n (.sl l) x)
    (hr : ∀ (m : Nat) (row : List DV), row.length = l.length → (∀ (j : Nat) (sh : Sh) (y : DV), l[j]? = some sh → row[j]? = some y → shOk m sh y) → ∃ a, row = f a ∧ q a) :
    ∃ as : List α, x = .sl l.length (as.map f) ∧ (as.length : Int) ≤ 9223372036854775807 ∧ ∀ a ∈ as, q a := by
  cases n with
  | zero => simp [shOk] at h
  | succ n => cases x with
    | sc v => cases v <;> simp [shOk] at h
    | sl sz rows =>
      obtain ⟨rfl, _, h3, h4⟩ := h
      have : ∀ rows : List (List DV), (∀ row ∈ rows, ∃ a, row = f a ∧ q a) → ∃ as : List α, rows = as.map f ∧ ∀ a ∈ as, q a := by
        intro rows
        induction rows with
        | nil => exact fun _ => ⟨[], rfl, by simp⟩
        | cons r rs ih =>
          intro h
          obtain ⟨a, h1, h2⟩ := h r (by simp)
          obtain ⟨as, h3, h4⟩ := ih (fun r hr => h r (by simp [hr]))
          exact ⟨a :: as, by rw [h1, h3]; rfl, fun b hb => (List.mem_cons.1 hb).elim (fun e => e ▸ h2) (h4 b)⟩
      obtain ⟨as, rfl, h5⟩ := this rows (fun row hrow => hr n row (h4 row hrow).1 (h4 row hrow).2)
      refine ⟨as, rfl, ?_, h5⟩
      simp only [List.length_map, maxLen] at h3
      omega
theorem row_one {α : Type} {P : Sh → DV → Prop} {sh : Sh} {row : List DV} {f : α → DV} {q : α → Prop} (hl : row.length = 1) (h : ∀ (j : Nat) (s : Sh) (y : DV), [sh][j]? = some s → row[j]? = some y → P s y) (hf : ∀ y, P sh y → ∃ a, y = f a ∧ q a) : ∃ a, row = [f a] ∧ q a := by
  match row, hl with
  | [y], _ =>
    obtain ⟨a, rfl, ha⟩ := hf y (h 0 sh y rfl rfl)
    exact ⟨a, rfl, ha⟩
theorem shOk_bytes {n : Nat} {x : DV} (h : shOk n (.sl [.int .u8]) x) : ∃ b : List UInt8, x = encB b ∧ (b.length : Int) ≤ 9223372036854775807 := by
  obtain ⟨as, h1, h2, _⟩ := shOk_rows (α := UInt8) (f := fun b => [.sc (.int .u8 b.toNat)]) (q := fun _ => True) h (fun m row hl hc => row_one (P := shOk m) hl hc fun y hy => by obtain ⟨b, rfl⟩ := shOk_u8 hy; exact ⟨b, rfl, trivial⟩)
  exact ⟨as, h1, h2⟩
end Hearth

/- Arguments of laws as records. -/
namespace Hearth
open Go
abbrev shB : Sh := .sl [.int .u8]
abbrev i64 : Sh := .int .i64
end Hearth
